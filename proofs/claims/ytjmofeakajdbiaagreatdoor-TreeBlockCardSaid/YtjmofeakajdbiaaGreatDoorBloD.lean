/- Part of a proof. No condition. (Part 4.) -/
import Derived.Test.YtjmofeakajdbiaaGreatDoorBloC
set_option linter.unusedVariables false
set_option linter.unusedSimpArgs false
set_option maxRecDepth 100000
set_option maxHeartbeats 40000000
set_option linter.unusedVariables false
noncomputable section
namespace Go.Proofs.YtjmofeakajdbiaaGreatDoor
open Go Go.AM
def F74 (n:Nat) (s1:BA):Option (Bool):=
 bO1 (F121x1 n s1) fun b2=>some b2
theorem T74 (n:Nat):∀⦃s1 r1⦄,F74 n s1=some r1->
    Trip Tryz.prog inv 74 [.d (.str s1)] [] (.v (.d (.bool r1))) [] []:=by
 intro s1 r1 h
 unfold F74 at h
 refine Trip.of tab_ok tab_one fol Tryz.func74 rfl (by kernel_rfl) rfl rfl rfl (fun M hM hI=>?_)
 try cbv
 refine seq_go ?_
 try cbv
 refine seq_go ?_
 try cbv
 replace h:=bO1_inv h
 obtain⟨b2,hr,h⟩:=h
 refine call_go rfl rfl ?_
 try cbv
 refine call_pure hM hI (T121x1 _ hr) rfl ?_
 clear hr
 try cbv
 obtain rfl:=Option.some.inj h
 refine fin_go ?_
 try cbv
 exact⟨[],by trivial⟩
def F71 (n:Nat) (s1:BA) (z2:Int) (s3:BA) (l4:LD) (b5:Bool) (z6:Int):Option (Bool×Bool×Int):=
 bO1 (F74 n s1) fun b7=>(if b7=true then (if b5=true then bO1 (F72 n z2 s3 l4) fun b8=>(if b8=true then some (true,true,z6)else letF (IntKind.wrap .i64 (z6 - 1)) fun z9=>bO1 (F55 n z2 s3 l4 z9) fun b10=>some (b10,true,z6))else letF (IntKind.wrap .i64 (z6 - 1)) fun z11=>bO1 (F55 n z2 s3 l4 z11) fun b12=>some (b12,false,z6))else some (false,b5,z6))
theorem T71 (n:Nat):∀⦃s1 z2 s3 l4 b5 z6 r1 r2 r3⦄,F71 n s1 z2 s3 l4 b5 z6=some (r1,r2,r3)->
    Trip Tryz.prog inv 71 [.d (.agg [.str s1,.int .u8 z2,.str s3,.list true 3 l4]),.c (.ptr (.ext 0) 0),.c (.ptr (.ext 1) 0),.c (.ptr (.ext 2) 0)] [.cells [.fn 74 []],.cells [.d (.bool b5)],.cells [.d (.int .i64 z6)]] (.v (.d (.bool r1))) [.cells [.fn 74 []],.cells [.d (.bool r2)],.cells [.d (.int .i64 r3)]] []:=by
 intro s1 z2 s3 l4 b5 z6 r1 r2 r3 h
 unfold F71 at h
 refine Trip.of tab_ok tab_one fol Tryz.func71 rfl (by kernel_rfl) rfl rfl rfl (fun M hM hI=>?_)
 try cbv
 refine seq_go ?_
 try cbv
 refine seq_go ?_
 try cbv
 replace h:=bO1_inv h
 obtain⟨b7,hr,h⟩:=h
 refine call_go rfl rfl ?_
 try cbv
 refine call_pure hM hI (T74 _ hr) rfl ?_
 clear hr
 try cbv
 cases b7
 ·replace h:=itF h
  try cbv
  obtain⟨rfl,rfl,rfl⟩:=inj3 h
  refine fin_go ?_
  try cbv
  exact⟨[],rfl,rfl,⟨rfl,⟨rfl,⟨rfl,trivial⟩⟩⟩,trivial,trivial⟩
 replace h:=itT h
 try cbv
 cases b5
 ·replace h:=itF h
  try cbv
  replace h:=letF_inv h
  obtain⟨z11,hz,h⟩:=h
  refine⟨z11,hz,?_⟩
  clear hz
  try cbv
  replace h:=bO1_inv h
  obtain⟨b12,hr,h⟩:=h
  refine call_go rfl rfl ?_
  try cbv
  refine call_pure hM hI (T55 _ hr) rfl ?_
  clear hr
  try cbv
  obtain⟨rfl,rfl,rfl⟩:=inj3 h
  refine fin_go ?_
  try cbv
  exact⟨[],rfl,rfl,⟨rfl,⟨rfl,⟨rfl,trivial⟩⟩⟩,trivial,trivial⟩
 replace h:=itT h
 try cbv
 replace h:=bO1_inv h
 obtain⟨b8,hr,h⟩:=h
 refine call_go rfl rfl ?_
 try cbv
 refine call_pure hM hI (T72 _ hr) rfl ?_
 clear hr
 try cbv
 cases b8
 ·replace h:=itF h
  try cbv
  replace h:=letF_inv h
  obtain⟨z9,hz,h⟩:=h
  refine⟨z9,hz,?_⟩
  clear hz
  try cbv
  replace h:=bO1_inv h
  obtain⟨b10,hr,h⟩:=h
  refine call_go rfl rfl ?_
  try cbv
  refine call_pure hM hI (T55 _ hr) rfl ?_
  clear hr
  try cbv
  obtain⟨rfl,rfl,rfl⟩:=inj3 h
  refine fin_go ?_
  try cbv
  exact⟨[],rfl,rfl,⟨rfl,⟨rfl,⟨rfl,trivial⟩⟩⟩,trivial,trivial⟩
 replace h:=itT h
 try cbv
 obtain⟨rfl,rfl,rfl⟩:=inj3 h
 refine fin_go ?_
 try cbv
 exact⟨[],rfl,rfl,⟨rfl,⟨rfl,⟨rfl,trivial⟩⟩⟩,trivial,trivial⟩
mutual
def L70_1:Nat->LD->Int->Int->Bool->Int->Option (Bool×Bool×Int)
 | 0,_,_,_,_,_=>none
 | n+1,l1,z2,z5,b6,z7=>
  lenF l1 fun z8=>(if z5<z8 then (if z5<z2 then L70_2 n l1 z2 z5 b6 z7 true else L70_2 n l1 z2 z5 b6 z7 false)else L70_2 n l1 z2 z5 b6 z7 false)
def L70_2:Nat->LD->Int->Int->Bool->Int->Bool->Option (Bool×Bool×Int)
 | 0,_,_,_,_,_,_=>none
 | n+1,l1,z2,z5,b6,z7,b9=>
  (if b9=true then getF l1 z5 fun x10=>ds_t74 x10 fun s11 z12 s13 l14=>bO3 (F71 n s11 z12 s13 l14 b6 z7) fun b15 b16 z17=>letB (!b15) fun b18=>(if b18=true then some (false,b16,z17)else letF (IntKind.wrap .i64 (z5+1)) fun z19=>L70_1 n l1 z2 z19 b16 z17)else lenF l1 fun z20=>(if z20<=z2 then some (true,b6,z7)else some (false,b6,z7)))
end
def F70 (n:Nat) (l1:LD) (z2:Int) (b3:Bool) (z4:Int):Option (Bool×Bool×Int):=
 L70_1 n l1 z2 (0:Int) b3 z4
theorem T70 (n:Nat):∀⦃l1 z2 b3 z4 r1 r2 r3⦄,F70 n l1 z2 b3 z4=some (r1,r2,r3)->
    Trip Tryz.prog inv 70 [.d (.list true 4 l1),.d (.int .i64 z2),.c (.fn 71 [.ext 0,.ext 1,.ext 2])] [.cells [.fn 74 []],.cells [.d (.bool b3)],.cells [.d (.int .i64 z4)]] (.v (.d (.bool r1))) [.cells [.fn 74 []],.cells [.d (.bool r2)],.cells [.d (.int .i64 r3)]] []:=by
 intro l1 z2 b3 z4 r1 r2 r3 h
 unfold F70 at h
 refine Trip.of tab_ok tab_one fol Tryz.func70 rfl (by kernel_rfl) rfl rfl rfl (fun M hM hI=>?_)
 try cbv
 refine seq_go ?_
 try cbv
 refine seq_go ?_
 try cbv
 refine seq_go ?_
 try cbv
 refine loop_inv (T:=Nat×Int×Bool×Int) [0,1,2,6,7] [.ext 0,.ext 1,.ext 2] 64 (fun t=>⟨[sT 0 4 l1,sI 1 z2,(2,.v (.c (.fn 71 [.ext 0,.ext 1,.ext 2]))),sB 6 false,sI 7 t.2.1],[(.ext 0,.cells [.fn 74 []]),(.ext 1,.cells [.d (.bool t.2.2.1)]),(.ext 2,.cells [.d (.int .i64 t.2.2.2)])],64⟩)
   (fun t=>t.1<=n/\L70_1 t.1 l1 z2 t.2.1 t.2.2.1 t.2.2.2=some (r1,r2,r3)) (fun t=>t.1) (n,((0:Int),b3,z4)) ⟨Nat.le_refl _,h⟩ (by cbv) ?_
 clear h
 rintro⟨m1,z5,b6,z7⟩ ⟨hm1,h⟩
 replace hm1:m1<=n:=hm1
 obtain _ | m1:=m1
 ·replace h:L70_1 0 l1 z2 z5 b6 z7=some (r1,r2,r3):=h
  rw[L70_1]at h
  cases h
 replace h:L70_1 (m1+1) l1 z2 z5 b6 z7=some (r1,r2,r3):=h
 rw[L70_1]at h
 try cbv
 refine seq_go ?_
 try cbv
 refine seq_joinB 16 [0,1,2,6,7,16] [.ext 0,.ext 1,.ext 2] 352 (fun m b=>m<=m1/\L70_2 m l1 z2 z5 b6 z7 b=some (r1,r2,r3)) ?_ ?_
 ·try cbv
  replace h:=lenF_inv M h
  obtain⟨z8,hz,h⟩:=h
  refine⟨z8,hz,?_⟩
  clear hz
  try cbv
  refine splitL (fun e=>?_) (fun e=>?_)
  ·replace h:=ite_t e h
   clear e
   try cbv
   refine splitL (fun e=>?_) (fun e=>?_)
   ·replace h:=ite_t e h
    clear e
    try cbv
    exact join_next (m1,true) [0,1,2,6,7,16] [.ext 0,.ext 1,.ext 2] 352 ⟨by omega,h⟩ (by cbv)
   replace h:=ite_f (Int.not_lt.2 e) h
   clear e
   try cbv
   exact join_next (m1,false) [0,1,2,6,7,16] [.ext 0,.ext 1,.ext 2] 352 ⟨by omega,h⟩ (by cbv)
  replace h:=ite_f (Int.not_lt.2 e) h
  clear e
  try cbv
  exact join_next (m1,false) [0,1,2,6,7,16] [.ext 0,.ext 1,.ext 2] 352 ⟨by omega,h⟩ (by cbv)
 clear h
 rintro⟨m2,b9⟩ ⟨hm2,h⟩
 try cbv
 replace hm2:m2<=m1:=hm2
 obtain _ | m2:=m2
 ·replace h:L70_2 0 l1 z2 z5 b6 z7 b9=some (r1,r2,r3):=h
  rw[L70_2]at h
  cases h
 replace h:L70_2 (m2+1) l1 z2 z5 b6 z7 b9=some (r1,r2,r3):=h
 rw[L70_2]at h
 try cbv
 cases b9
 ·replace h:=itF h
  try cbv
  refine seq_go ?_
  try cbv
  replace h:=lenF_inv M h
  obtain⟨z20,hz,h⟩:=h
  refine⟨z20,hz,?_⟩
  clear hz
  try cbv
  refine splitLe (fun e=>?_) (fun e=>?_)
  ·replace h:=ite_t e h
   clear e
   try cbv
   obtain⟨rfl,rfl,rfl⟩:=inj3 h
   refine fin_go ?_
   try cbv
   exact⟨[],rfl,rfl,⟨rfl,⟨rfl,⟨rfl,trivial⟩⟩⟩,trivial,trivial⟩
  replace h:=ite_f (Int.not_le.2 e) h
  clear e
  try cbv
  obtain⟨rfl,rfl,rfl⟩:=inj3 h
  refine fin_go ?_
  try cbv
  exact⟨[],rfl,rfl,⟨rfl,⟨rfl,⟨rfl,trivial⟩⟩⟩,trivial,trivial⟩
 replace h:=itT h
 try cbv
 refine seq_go ?_
 try cbv
 refine seq_go ?_
 try cbv
 replace h:=getF_inv h
 obtain⟨x10,⟨hx0,hx⟩,h⟩:=h
 refine⟨x10,hx0,hx,?_⟩
 clear hx0 hx
 replace h:=ds_t74_inv h
 obtain⟨s11,z12,s13,l14,rfl,h⟩:=h
 try cbv
 replace h:=bO3_inv h
 obtain⟨b15,b16,z17,hr,h⟩:=h
 refine call_go rfl rfl ?_
 try cbv
 refine call_with hM hI [.ext 0,.ext 1,.ext 2] (T71 _ hr) rfl (by simp) ⟨rfl,⟨rfl,⟨rfl,trivial⟩⟩⟩ ⟨trivial,⟨trivial,⟨trivial,trivial⟩⟩⟩ (by simp) ?_
 clear hr
 try cbv
 replace h:=letB_inv h
 obtain⟨b18,hz,h⟩:=h
 refine⟨b18,not_eq' hz,?_⟩
 clear hz
 try cbv
 cases b18
 ·replace h:=itF h
  try cbv
  replace h:=letF_inv h
  obtain⟨z19,hz,h⟩:=h
  refine⟨z19,hz,?_⟩
  clear hz
  try cbv
  exact loop_next (m2,(z19,b16,z17)) [0,1,2,6,7] [.ext 0,.ext 1,.ext 2] 64 ⟨by omega,h⟩ (Nat.lt_succ_of_le (by omega)) (by cbv)
 replace h:=itT h
 try cbv
 refine seq_go ?_
 try cbv
 obtain⟨rfl,rfl,rfl⟩:=inj3 h
 refine fin_go ?_
 try cbv
 exact⟨[],rfl,rfl,⟨rfl,⟨rfl,⟨rfl,trivial⟩⟩⟩,trivial,trivial⟩
def F69 (n:Nat) (b1:Bool) (z2:Int) (s3:BA) (l4:LD) (z5:Int) (s6:BA) (l7:LD) (l8:LD) (z9:Int) (z10:Int) (s11:BA) (s12:BA) (s13:BA) (l14:LD) (l15:LD) (z16:Int) (z17:Int) (z18:Int):Option (Bool×Int×BA×LD×Int×BA×LD×LD×Int×Int×BA×BA×BA×LD×LD×Int×Int×Int):=
 bO3 (F70 n l4 (6:Int) b1 z18) fun b19 b20 z21=>some (b19,z2,s3,l4,z5,s6,l7,l8,z9,z10,s11,s12,s13,l14,l15,z16,z17,z21)
theorem T69 (n:Nat):∀⦃b1 z2 s3 l4 z5 s6 l7 l8 z9 z10 s11 s12 s13 l14 l15 z16 z17 z18 r1 r2 r3 r4 r5 r6 r7 r8 r9 r10 r11 r12 r13 r14 r15 r16 r17 r18⦄,F69 n b1 z2 s3 l4 z5 s6 l7 l8 z9 z10 s11 s12 s13 l14 l15 z16 z17 z18=some (r1,r2,r3,r4,r5,r6,r7,r8,r9,r10,r11,r12,r13,r14,r15,r16,r17,r18)->
    Trip Tryz.prog inv 69 [.c (.fn 74 []),.d (.bool b1),.c (.ptr (.ext 0) 0),.c (.ptr (.ext 1) 0)] [.cells [.d (.int .u8 z2),.d (.str s3),.d (.list true 4 l4),.d (.int .u8 z5),.d (.str s6),.d (.list true 3 l7),.d (.list true 15 l8),.d (.int .u8 z9),.d (.int .i64 z10),.d (.str s11),.d (.str s12),.d (.str s13),.d (.list false 1 l14),.d (.list true 8 l15),.d (.int .i64 z16),.d (.int .i64 z17)],.cells [.d (.int .i64 z18)]] (.v (.d (.bool r1))) [.cells [.d (.int .u8 r2),.d (.str r3),.d (.list true 4 r4),.d (.int .u8 r5),.d (.str r6),.d (.list true 3 r7),.d (.list true 15 r8),.d (.int .u8 r9),.d (.int .i64 r10),.d (.str r11),.d (.str r12),.d (.str r13),.d (.list false 1 r14),.d (.list true 8 r15),.d (.int .i64 r16),.d (.int .i64 r17)],.cells [.d (.int .i64 r18)]] []:=by
 intro b1 z2 s3 l4 z5 s6 l7 l8 z9 z10 s11 s12 s13 l14 l15 z16 z17 z18 r1 r2 r3 r4 r5 r6 r7 r8 r9 r10 r11 r12 r13 r14 r15 r16 r17 r18 h
 unfold F69 at h
 refine Trip.of tab_ok tab_one fol Tryz.func69 rfl (by kernel_rfl) rfl rfl rfl (fun M hM hI=>?_)
 try cbv
 refine seq_go ?_
 try cbv
 refine seq_go ?_
 try cbv
 replace h:=bO3_inv h
 obtain⟨b19,b20,z21,hr,h⟩:=h
 refine call_go rfl rfl ?_
 try cbv
 refine call_with hM hI [.loc 0,.loc 32,.ext 1] (T70 _ hr) rfl (by simp) ⟨rfl,⟨rfl,⟨rfl,trivial⟩⟩⟩ ⟨trivial,⟨trivial,⟨trivial,trivial⟩⟩⟩ (by simp) ?_
 clear hr
 try cbv
 obtain⟨rfl,rfl,rfl,rfl,rfl,rfl,rfl,rfl,rfl,rfl,rfl,rfl,rfl,rfl,rfl,rfl,rfl,rfl⟩:=inj18 h
 refine fin_go ?_
 try cbv
 exact⟨[],rfl,rfl,⟨rfl,⟨rfl,trivial⟩⟩,trivial,trivial⟩
def F71x1 (n:Nat) (s1:BA) (z2:Int) (s3:BA) (l4:LD) (b5:Bool) (z6:Int):Option (Bool×Bool×Int):=
 bO1 (F73 n s1) fun b7=>(if b7=true then (if b5=true then bO1 (F72 n z2 s3 l4) fun b8=>(if b8=true then some (true,true,z6)else letF (IntKind.wrap .i64 (z6 - 1)) fun z9=>bO1 (F55 n z2 s3 l4 z9) fun b10=>some (b10,true,z6))else letF (IntKind.wrap .i64 (z6 - 1)) fun z11=>bO1 (F55 n z2 s3 l4 z11) fun b12=>some (b12,false,z6))else some (false,b5,z6))
theorem T71x1 (n:Nat):∀⦃s1 z2 s3 l4 b5 z6 r1 r2 r3⦄,F71x1 n s1 z2 s3 l4 b5 z6=some (r1,r2,r3)->
    Trip Tryz.prog inv 71 [.d (.agg [.str s1,.int .u8 z2,.str s3,.list true 3 l4]),.c (.ptr (.ext 0) 0),.c (.ptr (.ext 1) 0),.c (.ptr (.ext 2) 0)] [.cells [.fn 73 []],.cells [.d (.bool b5)],.cells [.d (.int .i64 z6)]] (.v (.d (.bool r1))) [.cells [.fn 73 []],.cells [.d (.bool r2)],.cells [.d (.int .i64 r3)]] []:=by
 intro s1 z2 s3 l4 b5 z6 r1 r2 r3 h
 unfold F71x1 at h
 refine Trip.of tab_ok tab_one fol Tryz.func71 rfl (by kernel_rfl) rfl rfl rfl (fun M hM hI=>?_)
 try cbv
 refine seq_go ?_
 try cbv
 refine seq_go ?_
 try cbv
 replace h:=bO1_inv h
 obtain⟨b7,hr,h⟩:=h
 refine call_go rfl rfl ?_
 try cbv
 refine call_pure hM hI (T73 _ hr) rfl ?_
 clear hr
 try cbv
 cases b7
 ·replace h:=itF h
  try cbv
  obtain⟨rfl,rfl,rfl⟩:=inj3 h
  refine fin_go ?_
  try cbv
  exact⟨[],rfl,rfl,⟨rfl,⟨rfl,⟨rfl,trivial⟩⟩⟩,trivial,trivial⟩
 replace h:=itT h
 try cbv
 cases b5
 ·replace h:=itF h
  try cbv
  replace h:=letF_inv h
  obtain⟨z11,hz,h⟩:=h
  refine⟨z11,hz,?_⟩
  clear hz
  try cbv
  replace h:=bO1_inv h
  obtain⟨b12,hr,h⟩:=h
  refine call_go rfl rfl ?_
  try cbv
  refine call_pure hM hI (T55 _ hr) rfl ?_
  clear hr
  try cbv
  obtain⟨rfl,rfl,rfl⟩:=inj3 h
  refine fin_go ?_
  try cbv
  exact⟨[],rfl,rfl,⟨rfl,⟨rfl,⟨rfl,trivial⟩⟩⟩,trivial,trivial⟩
 replace h:=itT h
 try cbv
 replace h:=bO1_inv h
 obtain⟨b8,hr,h⟩:=h
 refine call_go rfl rfl ?_
 try cbv
 refine call_pure hM hI (T72 _ hr) rfl ?_
 clear hr
 try cbv
 cases b8
 ·replace h:=itF h
  try cbv
  replace h:=letF_inv h
  obtain⟨z9,hz,h⟩:=h
  refine⟨z9,hz,?_⟩
  clear hz
  try cbv
  replace h:=bO1_inv h
  obtain⟨b10,hr,h⟩:=h
  refine call_go rfl rfl ?_
  try cbv
  refine call_pure hM hI (T55 _ hr) rfl ?_
  clear hr
  try cbv
  obtain⟨rfl,rfl,rfl⟩:=inj3 h
  refine fin_go ?_
  try cbv
  exact⟨[],rfl,rfl,⟨rfl,⟨rfl,⟨rfl,trivial⟩⟩⟩,trivial,trivial⟩
 replace h:=itT h
 try cbv
 obtain⟨rfl,rfl,rfl⟩:=inj3 h
 refine fin_go ?_
 try cbv
 exact⟨[],rfl,rfl,⟨rfl,⟨rfl,⟨rfl,trivial⟩⟩⟩,trivial,trivial⟩
mutual
def L70x1_1:Nat->LD->Int->Int->Bool->Int->Option (Bool×Bool×Int)
 | 0,_,_,_,_,_=>none
 | n+1,l1,z2,z5,b6,z7=>
  lenF l1 fun z8=>(if z5<z8 then (if z5<z2 then L70x1_2 n l1 z2 z5 b6 z7 true else L70x1_2 n l1 z2 z5 b6 z7 false)else L70x1_2 n l1 z2 z5 b6 z7 false)
def L70x1_2:Nat->LD->Int->Int->Bool->Int->Bool->Option (Bool×Bool×Int)
 | 0,_,_,_,_,_,_=>none
 | n+1,l1,z2,z5,b6,z7,b9=>
  (if b9=true then getF l1 z5 fun x10=>ds_t74 x10 fun s11 z12 s13 l14=>bO3 (F71x1 n s11 z12 s13 l14 b6 z7) fun b15 b16 z17=>letB (!b15) fun b18=>(if b18=true then some (false,b16,z17)else letF (IntKind.wrap .i64 (z5+1)) fun z19=>L70x1_1 n l1 z2 z19 b16 z17)else lenF l1 fun z20=>(if z20<=z2 then some (true,b6,z7)else some (false,b6,z7)))
end
def F70x1 (n:Nat) (l1:LD) (z2:Int) (b3:Bool) (z4:Int):Option (Bool×Bool×Int):=
 L70x1_1 n l1 z2 (0:Int) b3 z4
theorem T70x1 (n:Nat):∀⦃l1 z2 b3 z4 r1 r2 r3⦄,F70x1 n l1 z2 b3 z4=some (r1,r2,r3)->
    Trip Tryz.prog inv 70 [.d (.list true 4 l1),.d (.int .i64 z2),.c (.fn 71 [.ext 0,.ext 1,.ext 2])] [.cells [.fn 73 []],.cells [.d (.bool b3)],.cells [.d (.int .i64 z4)]] (.v (.d (.bool r1))) [.cells [.fn 73 []],.cells [.d (.bool r2)],.cells [.d (.int .i64 r3)]] []:=by
 intro l1 z2 b3 z4 r1 r2 r3 h
 unfold F70x1 at h
 refine Trip.of tab_ok tab_one fol Tryz.func70 rfl (by kernel_rfl) rfl rfl rfl (fun M hM hI=>?_)
 try cbv
 refine seq_go ?_
 try cbv
 refine seq_go ?_
 try cbv
 refine seq_go ?_
 try cbv
 refine loop_inv (T:=Nat×Int×Bool×Int) [0,1,2,6,7] [.ext 0,.ext 1,.ext 2] 64 (fun t=>⟨[sT 0 4 l1,sI 1 z2,(2,.v (.c (.fn 71 [.ext 0,.ext 1,.ext 2]))),sB 6 false,sI 7 t.2.1],[(.ext 0,.cells [.fn 73 []]),(.ext 1,.cells [.d (.bool t.2.2.1)]),(.ext 2,.cells [.d (.int .i64 t.2.2.2)])],64⟩)
   (fun t=>t.1<=n/\L70x1_1 t.1 l1 z2 t.2.1 t.2.2.1 t.2.2.2=some (r1,r2,r3)) (fun t=>t.1) (n,((0:Int),b3,z4)) ⟨Nat.le_refl _,h⟩ (by cbv) ?_
 clear h
 rintro⟨m1,z5,b6,z7⟩ ⟨hm1,h⟩
 replace hm1:m1<=n:=hm1
 obtain _ | m1:=m1
 ·replace h:L70x1_1 0 l1 z2 z5 b6 z7=some (r1,r2,r3):=h
  rw[L70x1_1]at h
  cases h
 replace h:L70x1_1 (m1+1) l1 z2 z5 b6 z7=some (r1,r2,r3):=h
 rw[L70x1_1]at h
 try cbv
 refine seq_go ?_
 try cbv
 refine seq_joinB 16 [0,1,2,6,7,16] [.ext 0,.ext 1,.ext 2] 352 (fun m b=>m<=m1/\L70x1_2 m l1 z2 z5 b6 z7 b=some (r1,r2,r3)) ?_ ?_
 ·try cbv
  replace h:=lenF_inv M h
  obtain⟨z8,hz,h⟩:=h
  refine⟨z8,hz,?_⟩
  clear hz
  try cbv
  refine splitL (fun e=>?_) (fun e=>?_)
  ·replace h:=ite_t e h
   clear e
   try cbv
   refine splitL (fun e=>?_) (fun e=>?_)
   ·replace h:=ite_t e h
    clear e
    try cbv
    exact join_next (m1,true) [0,1,2,6,7,16] [.ext 0,.ext 1,.ext 2] 352 ⟨by omega,h⟩ (by cbv)
   replace h:=ite_f (Int.not_lt.2 e) h
   clear e
   try cbv
   exact join_next (m1,false) [0,1,2,6,7,16] [.ext 0,.ext 1,.ext 2] 352 ⟨by omega,h⟩ (by cbv)
  replace h:=ite_f (Int.not_lt.2 e) h
  clear e
  try cbv
  exact join_next (m1,false) [0,1,2,6,7,16] [.ext 0,.ext 1,.ext 2] 352 ⟨by omega,h⟩ (by cbv)
 clear h
 rintro⟨m2,b9⟩ ⟨hm2,h⟩
 try cbv
 replace hm2:m2<=m1:=hm2
 obtain _ | m2:=m2
 ·replace h:L70x1_2 0 l1 z2 z5 b6 z7 b9=some (r1,r2,r3):=h
  rw[L70x1_2]at h
  cases h
 replace h:L70x1_2 (m2+1) l1 z2 z5 b6 z7 b9=some (r1,r2,r3):=h
 rw[L70x1_2]at h
 try cbv
 cases b9
 ·replace h:=itF h
  try cbv
  refine seq_go ?_
  try cbv
  replace h:=lenF_inv M h
  obtain⟨z20,hz,h⟩:=h
  refine⟨z20,hz,?_⟩
  clear hz
  try cbv
  refine splitLe (fun e=>?_) (fun e=>?_)
  ·replace h:=ite_t e h
   clear e
   try cbv
   obtain⟨rfl,rfl,rfl⟩:=inj3 h
   refine fin_go ?_
   try cbv
   exact⟨[],rfl,rfl,⟨rfl,⟨rfl,⟨rfl,trivial⟩⟩⟩,trivial,trivial⟩
  replace h:=ite_f (Int.not_le.2 e) h
  clear e
  try cbv
  obtain⟨rfl,rfl,rfl⟩:=inj3 h
  refine fin_go ?_
  try cbv
  exact⟨[],rfl,rfl,⟨rfl,⟨rfl,⟨rfl,trivial⟩⟩⟩,trivial,trivial⟩
 replace h:=itT h
 try cbv
 refine seq_go ?_
 try cbv
 refine seq_go ?_
 try cbv
 replace h:=getF_inv h
 obtain⟨x10,⟨hx0,hx⟩,h⟩:=h
 refine⟨x10,hx0,hx,?_⟩
 clear hx0 hx
 replace h:=ds_t74_inv h
 obtain⟨s11,z12,s13,l14,rfl,h⟩:=h
 try cbv
 replace h:=bO3_inv h
 obtain⟨b15,b16,z17,hr,h⟩:=h
 refine call_go rfl rfl ?_
 try cbv
 refine call_with hM hI [.ext 0,.ext 1,.ext 2] (T71x1 _ hr) rfl (by simp) ⟨rfl,⟨rfl,⟨rfl,trivial⟩⟩⟩ ⟨trivial,⟨trivial,⟨trivial,trivial⟩⟩⟩ (by simp) ?_
 clear hr
 try cbv
 replace h:=letB_inv h
 obtain⟨b18,hz,h⟩:=h
 refine⟨b18,not_eq' hz,?_⟩
 clear hz
 try cbv
 cases b18
 ·replace h:=itF h
  try cbv
  replace h:=letF_inv h
  obtain⟨z19,hz,h⟩:=h
  refine⟨z19,hz,?_⟩
  clear hz
  try cbv
  exact loop_next (m2,(z19,b16,z17)) [0,1,2,6,7] [.ext 0,.ext 1,.ext 2] 64 ⟨by omega,h⟩ (Nat.lt_succ_of_le (by omega)) (by cbv)
 replace h:=itT h
 try cbv
 refine seq_go ?_
 try cbv
 obtain⟨rfl,rfl,rfl⟩:=inj3 h
 refine fin_go ?_
 try cbv
 exact⟨[],rfl,rfl,⟨rfl,⟨rfl,⟨rfl,trivial⟩⟩⟩,trivial,trivial⟩
def F69x1 (n:Nat) (b1:Bool) (z2:Int) (s3:BA) (l4:LD) (z5:Int) (s6:BA) (l7:LD) (l8:LD) (z9:Int) (z10:Int) (s11:BA) (s12:BA) (s13:BA) (l14:LD) (l15:LD) (z16:Int) (z17:Int) (z18:Int):Option (Bool×Int×BA×LD×Int×BA×LD×LD×Int×Int×BA×BA×BA×LD×LD×Int×Int×Int):=
 bO3 (F70x1 n l4 (6:Int) b1 z18) fun b19 b20 z21=>some (b19,z2,s3,l4,z5,s6,l7,l8,z9,z10,s11,s12,s13,l14,l15,z16,z17,z21)
theorem T69x1 (n:Nat):∀⦃b1 z2 s3 l4 z5 s6 l7 l8 z9 z10 s11 s12 s13 l14 l15 z16 z17 z18 r1 r2 r3 r4 r5 r6 r7 r8 r9 r10 r11 r12 r13 r14 r15 r16 r17 r18⦄,F69x1 n b1 z2 s3 l4 z5 s6 l7 l8 z9 z10 s11 s12 s13 l14 l15 z16 z17 z18=some (r1,r2,r3,r4,r5,r6,r7,r8,r9,r10,r11,r12,r13,r14,r15,r16,r17,r18)->
    Trip Tryz.prog inv 69 [.c (.fn 73 []),.d (.bool b1),.c (.ptr (.ext 0) 0),.c (.ptr (.ext 1) 0)] [.cells [.d (.int .u8 z2),.d (.str s3),.d (.list true 4 l4),.d (.int .u8 z5),.d (.str s6),.d (.list true 3 l7),.d (.list true 15 l8),.d (.int .u8 z9),.d (.int .i64 z10),.d (.str s11),.d (.str s12),.d (.str s13),.d (.list false 1 l14),.d (.list true 8 l15),.d (.int .i64 z16),.d (.int .i64 z17)],.cells [.d (.int .i64 z18)]] (.v (.d (.bool r1))) [.cells [.d (.int .u8 r2),.d (.str r3),.d (.list true 4 r4),.d (.int .u8 r5),.d (.str r6),.d (.list true 3 r7),.d (.list true 15 r8),.d (.int .u8 r9),.d (.int .i64 r10),.d (.str r11),.d (.str r12),.d (.str r13),.d (.list false 1 r14),.d (.list true 8 r15),.d (.int .i64 r16),.d (.int .i64 r17)],.cells [.d (.int .i64 r18)]] []:=by
 intro b1 z2 s3 l4 z5 s6 l7 l8 z9 z10 s11 s12 s13 l14 l15 z16 z17 z18 r1 r2 r3 r4 r5 r6 r7 r8 r9 r10 r11 r12 r13 r14 r15 r16 r17 r18 h
 unfold F69x1 at h
 refine Trip.of tab_ok tab_one fol Tryz.func69 rfl (by kernel_rfl) rfl rfl rfl (fun M hM hI=>?_)
 try cbv
 refine seq_go ?_
 try cbv
 refine seq_go ?_
 try cbv
 replace h:=bO3_inv h
 obtain⟨b19,b20,z21,hr,h⟩:=h
 refine call_go rfl rfl ?_
 try cbv
 refine call_with hM hI [.loc 0,.loc 32,.ext 1] (T70x1 _ hr) rfl (by simp) ⟨rfl,⟨rfl,⟨rfl,trivial⟩⟩⟩ ⟨trivial,⟨trivial,⟨trivial,trivial⟩⟩⟩ (by simp) ?_
 clear hr
 try cbv
 obtain⟨rfl,rfl,rfl,rfl,rfl,rfl,rfl,rfl,rfl,rfl,rfl,rfl,rfl,rfl,rfl,rfl,rfl,rfl⟩:=inj18 h
 refine fin_go ?_
 try cbv
 exact⟨[],rfl,rfl,⟨rfl,⟨rfl,trivial⟩⟩,trivial,trivial⟩
def L124_13:Nat->Bool->Option (((Int×Int×Bool×Bool×Bool×Bool×Bool) ⊕ ((Int×Bool×Bool×Bool) ⊕ ((Unit) ⊕ ((Unit) ⊕ (Unit))))))
 | 0,_=>none
 | n+1,b29=>
  (if b29=true then some (.inr (.inr (.inr (.inr ()))))else some (.inl ((0:Int),(0:Int),false,false,false,false,false)))
def L124_12:Nat->Int->Bool->Option (((Int×Int×Bool×Bool×Bool×Bool×Bool) ⊕ ((Int×Bool×Bool×Bool) ⊕ ((Unit) ⊕ ((Unit) ⊕ (Unit))))))
 | 0,_,_=>none
 | n+1,z1,b28=>
  (if b28=true then some (.inr (.inl ((0:Int),true,true,false)))else (if z1=(12:Int)then L124_13 n true else L124_13 n false))
def L124_11:Nat->Int->LD->Bool->Option (((Int×Int×Bool×Bool×Bool×Bool×Bool) ⊕ ((Int×Bool×Bool×Bool) ⊕ ((Unit) ⊕ ((Unit) ⊕ (Unit))))))
 | 0,_,_,_=>none
 | n+1,z1,l4,b26=>
  (if b26=true then lenF l4 fun z27=>some (.inl ((6:Int),z27,false,true,false,true,true))else (if z1=(11:Int)then L124_12 n z1 true else L124_12 n z1 false))
def L124_10:Nat->Int->LD->Bool->Option (((Int×Int×Bool×Bool×Bool×Bool×Bool) ⊕ ((Int×Bool×Bool×Bool) ⊕ ((Unit) ⊕ ((Unit) ⊕ (Unit))))))
 | 0,_,_,_=>none
 | n+1,z1,l4,b25=>
  (if b25=true then some (.inl ((0:Int),(0:Int),false,true,false,false,true))else (if z1=(10:Int)then L124_11 n z1 l4 true else L124_11 n z1 l4 false))
def L124_9:Nat->Int->LD->Bool->Option (((Int×Int×Bool×Bool×Bool×Bool×Bool) ⊕ ((Int×Bool×Bool×Bool) ⊕ ((Unit) ⊕ ((Unit) ⊕ (Unit))))))
 | 0,_,_,_=>none
 | n+1,z1,l4,b24=>
  (if b24=true then L124_10 n z1 l4 true else (if z1=(13:Int)then L124_10 n z1 l4 true else L124_10 n z1 l4 false))
def L124_8:Nat->Int->LD->Bool->Option (((Int×Int×Bool×Bool×Bool×Bool×Bool) ⊕ ((Int×Bool×Bool×Bool) ⊕ ((Unit) ⊕ ((Unit) ⊕ (Unit))))))
 | 0,_,_,_=>none
 | n+1,z1,l4,b23=>
  (if b23=true then some (.inr (.inr (.inr (.inl ()))))else (if z1=(9:Int)then L124_9 n z1 l4 true else L124_9 n z1 l4 false))
def L124_7:Nat->Int->LD->Bool->Option (((Int×Int×Bool×Bool×Bool×Bool×Bool) ⊕ ((Int×Bool×Bool×Bool) ⊕ ((Unit) ⊕ ((Unit) ⊕ (Unit))))))
 | 0,_,_,_=>none
 | n+1,z1,l4,b22=>
  (if b22=true then some (.inl ((0:Int),(1:Int),false,true,false,false,true))else (if z1=(8:Int)then L124_8 n z1 l4 true else L124_8 n z1 l4 false))
def L124_6:Nat->Int->LD->Bool->Option (((Int×Int×Bool×Bool×Bool×Bool×Bool) ⊕ ((Int×Bool×Bool×Bool) ⊕ ((Unit) ⊕ ((Unit) ⊕ (Unit))))))
 | 0,_,_,_=>none
 | n+1,z1,l4,b21=>
  (if b21=true then some (.inl ((0:Int),(1:Int),false,true,true,false,true))else (if z1=(7:Int)then L124_7 n z1 l4 true else L124_7 n z1 l4 false))
def L124_5:Nat->Int->LD->Bool->Option (((Int×Int×Bool×Bool×Bool×Bool×Bool) ⊕ ((Int×Bool×Bool×Bool) ⊕ ((Unit) ⊕ ((Unit) ⊕ (Unit))))))
 | 0,_,_,_=>none
 | n+1,z1,l4,b20=>
  (if b20=true then some (.inr (.inl ((0:Int),false,false,false)))else (if z1=(6:Int)then L124_6 n z1 l4 true else L124_6 n z1 l4 false))
def L124_4:Nat->Int->LD->Bool->Option (((Int×Int×Bool×Bool×Bool×Bool×Bool) ⊕ ((Int×Bool×Bool×Bool) ⊕ ((Unit) ⊕ ((Unit) ⊕ (Unit))))))
 | 0,_,_,_=>none
 | n+1,z1,l4,b19=>
  (if b19=true then some (.inl ((0:Int),(1:Int),false,false,false,false,true))else (if z1=(5:Int)then L124_5 n z1 l4 true else L124_5 n z1 l4 false))
def L124_3:Nat->Int->LD->Bool->Option (((Int×Int×Bool×Bool×Bool×Bool×Bool) ⊕ ((Int×Bool×Bool×Bool) ⊕ ((Unit) ⊕ ((Unit) ⊕ (Unit))))))
 | 0,_,_,_=>none
 | n+1,z1,l4,b18=>
  (if b18=true then some (.inl ((0:Int),(1:Int),true,false,false,false,true))else (if z1=(4:Int)then L124_4 n z1 l4 true else L124_4 n z1 l4 false))
def L124_2:Nat->Int->LD->Bool->Option (((Int×Int×Bool×Bool×Bool×Bool×Bool) ⊕ ((Int×Bool×Bool×Bool) ⊕ ((Unit) ⊕ ((Unit) ⊕ (Unit))))))
 | 0,_,_,_=>none
 | n+1,z1,l4,b17=>
  (if b17=true then some (.inr (.inr (.inl ())))else (if z1=(3:Int)then L124_3 n z1 l4 true else L124_3 n z1 l4 false))
def L124_1:Nat->Int->LD->Bool->Option (((Int×Int×Bool×Bool×Bool×Bool×Bool) ⊕ ((Int×Bool×Bool×Bool) ⊕ ((Unit) ⊕ ((Unit) ⊕ (Unit))))))
 | 0,_,_,_=>none
 | n+1,z1,l4,b16=>
  (if b16=true then some (.inr (.inl ((1:Int),false,false,true)))else (if z1=(2:Int)then L124_2 n z1 l4 true else L124_2 n z1 l4 false))
def F124 (n:Nat) (z1:Int) (s2:BA) (s3:BA) (l4:LD) (z5:Int) (s6:BA) (l7:LD) (z8:Int) (s9:BA) (l10:LD) (l11:LD) (l12:LD) (l13:LD) (l14:LD) (z15:Int):Option (((Int×Int×Bool×Bool×Bool×Bool×Bool) ⊕ ((Int×Bool×Bool×Bool) ⊕ ((Unit) ⊕ ((Unit) ⊕ (Unit)))))):=
 (if z1=(1:Int)then L124_1 n z1 l4 true else L124_1 n z1 l4 false)
theorem T124 (n:Nat):∀⦃z1 s2 s3 l4 z5 s6 l7 z8 s9 l10 l11 l12 l13 l14 z15 r⦄,F124 n z1 s2 s3 l4 z5 s6 l7 z8 s9 l10 l11 l12 l13 l14 z15=some r->∀Q:AV->List AObj->List AObj->Prop,(match r with | .inl (r1,r2,r3,r4,r5,r6,r7)=>Q (.t [.agg [.d (.int .i64 r1),.d (.int .i64 r2),.d (.bool false),.d (.bool r3),.d (.bool r4),.d (.bool r5),.d (.bool false),.d (.bool r6),.fn 145 [],.fn 145 []],.d (.bool r7)]) [] [] | .inr (.inl (r1,r2,r3,r4))=>Q (.t [.agg [.d (.int .i64 0),.d (.int .i64 r1),.d (.bool false),.d (.bool r2),.d (.bool r3),.d (.bool false),.d (.bool false),.d (.bool r4),.fn 74 [],.fn 145 []],.d (.bool true)]) [] [] | .inr (.inr (.inl _))=>Q (.t [.agg [.d (.int .i64 6),.d (.int .i64 1),.d (.bool false),.d (.bool false),.d (.bool false),.d (.bool false),.d (.bool false),.d (.bool false),.fn 73 [],.fn 145 []],.d (.bool true)]) [] [] | .inr (.inr (.inr (.inl _)))=>Q (.t [.agg [.d (.int .i64 0),.d (.int .i64 0),.d (.bool false),.d (.bool false),.d (.bool false),.d (.bool false),.d (.bool true),.d (.bool false),.fn 74 [],.fn 73 []],.d (.bool true)]) [] [] | .inr (.inr (.inr (.inr _)))=>Q (.t [.agg [.d (.int .i64 0),.d (.int .i64 0),.d (.bool true),.d (.bool false),.d (.bool false),.d (.bool false),.d (.bool false),.d (.bool false),.fn 74 [],.fn 74 []],.d (.bool true)]) [] [])->
    TripK Tryz.prog inv 124 [.d (.agg [.int .u8 z1,.str s2,.str s3,.list false 1 l4,.int .u8 z5,.str s6,.list true 3 l7,.int .i64 z8,.str s9,.list false 1 l10,.list true 8 l11,.list true 15 l12,.list true 15 l13,.list true 3 l14,.int .i64 z15])] [] Q:=by
 intro z1 s2 s3 l4 z5 s6 l7 z8 s9 l10 l11 l12 l13 l14 z15 r h Q hQ
 unfold F124 at h
 refine TripK.of tab_ok tab_one fol Tryz.func124 rfl (by kernel_rfl) rfl rfl rfl (fun M hM hI=>?_)
 try cbv
 refine seq_go ?_
 try cbv
 refine seq_go ?_
 try cbv
 refine seq_go ?_
 try cbv
 refine seq_go ?_
 try cbv
 refine seq_joinB 9 [1,2,3,4,7,9] [.loc 0,.loc 32,.loc 128] 320 (fun m b=>m<=n/\L124_1 m z1 l4 b=some r) ?_ ?_
 ·try cbv
  refine splitI (fun e=>?_) (fun e=>?_)
  ·replace h:=ite_t e h
   clear e
   try cbv
   exact join_next (n,true) [1,2,3,4,7,9] [.loc 0,.loc 32,.loc 128] 320 ⟨by omega,h⟩ (by cbv)
  replace h:=ite_f e h
  clear e
  try cbv
  exact join_next (n,false) [1,2,3,4,7,9] [.loc 0,.loc 32,.loc 128] 320 ⟨by omega,h⟩ (by cbv)
 clear h
 rintro⟨m1,b16⟩ ⟨hm1,h⟩
 try cbv
 replace hm1:m1<=n:=hm1
 obtain _ | m1:=m1
 ·replace h:L124_1 0 z1 l4 b16=some r:=h
  rw[L124_1]at h
  cases h
 replace h:L124_1 (m1+1) z1 l4 b16=some r:=h
 rw[L124_1]at h
 try cbv
 cases b16
 rotate_left
 ·replace h:=itT h
  try cbv
  refine seq_go ?_
  try cbv
  obtain rfl:=Option.some.inj h
  refine finQ_go hQ ?_
  try cbv
  exact⟨[],by trivial⟩
 replace h:=itF h
 try cbv
 refine seq_joinB 14 [1,2,3,4,7,14] [.loc 0,.loc 32,.loc 128] 384 (fun m b=>m<=m1/\L124_2 m z1 l4 b=some r) ?_ ?_
 ·try cbv
  refine splitI (fun e=>?_) (fun e=>?_)
  ·replace h:=ite_t e h
   clear e
   try cbv
   exact join_next (m1,true) [1,2,3,4,7,14] [.loc 0,.loc 32,.loc 128] 384 ⟨by omega,h⟩ (by cbv)
  replace h:=ite_f e h
  clear e
  try cbv
  exact join_next (m1,false) [1,2,3,4,7,14] [.loc 0,.loc 32,.loc 128] 384 ⟨by omega,h⟩ (by cbv)
 clear h
 rintro⟨m2,b17⟩ ⟨hm2,h⟩
 try cbv
 replace hm2:m2<=m1:=hm2
 obtain _ | m2:=m2
 ·replace h:L124_2 0 z1 l4 b17=some r:=h
  rw[L124_2]at h
  cases h
 replace h:L124_2 (m2+1) z1 l4 b17=some r:=h
 rw[L124_2]at h
 try cbv
 cases b17
 rotate_left
 ·replace h:=itT h
  try cbv
  refine seq_go ?_
  try cbv
  obtain rfl:=Option.some.inj h
  refine finQ_go hQ ?_
  try cbv
  exact⟨[],by trivial⟩
 replace h:=itF h
 try cbv
 refine seq_joinB 19 [1,2,3,4,7,19] [.loc 0,.loc 32,.loc 128] 448 (fun m b=>m<=m2/\L124_3 m z1 l4 b=some r) ?_ ?_
 ·try cbv
  refine splitI (fun e=>?_) (fun e=>?_)
  ·replace h:=ite_t e h
   clear e
   try cbv
   exact join_next (m2,true) [1,2,3,4,7,19] [.loc 0,.loc 32,.loc 128] 448 ⟨by omega,h⟩ (by cbv)
  replace h:=ite_f e h
  clear e
  try cbv
  exact join_next (m2,false) [1,2,3,4,7,19] [.loc 0,.loc 32,.loc 128] 448 ⟨by omega,h⟩ (by cbv)
 clear h
 rintro⟨m3,b18⟩ ⟨hm3,h⟩
 try cbv
 replace hm3:m3<=m2:=hm3
 obtain _ | m3:=m3
 ·replace h:L124_3 0 z1 l4 b18=some r:=h
  rw[L124_3]at h
  cases h
 replace h:L124_3 (m3+1) z1 l4 b18=some r:=h
 rw[L124_3]at h
 try cbv
 cases b18
 rotate_left
 ·replace h:=itT h
  try cbv
  refine seq_go ?_
  try cbv
  obtain rfl:=Option.some.inj h
  refine finQ_go hQ ?_
  try cbv
  exact⟨[],by trivial⟩
 replace h:=itF h
 try cbv
 refine seq_joinB 23 [1,2,3,4,7,23] [.loc 0,.loc 32,.loc 128] 512 (fun m b=>m<=m3/\L124_4 m z1 l4 b=some r) ?_ ?_
 ·try cbv
  refine splitI (fun e=>?_) (fun e=>?_)
  ·replace h:=ite_t e h
   clear e
   try cbv
   exact join_next (m3,true) [1,2,3,4,7,23] [.loc 0,.loc 32,.loc 128] 512 ⟨by omega,h⟩ (by cbv)
  replace h:=ite_f e h
  clear e
  try cbv
  exact join_next (m3,false) [1,2,3,4,7,23] [.loc 0,.loc 32,.loc 128] 512 ⟨by omega,h⟩ (by cbv)
 clear h
 rintro⟨m4,b19⟩ ⟨hm4,h⟩
 try cbv
 replace hm4:m4<=m3:=hm4
 obtain _ | m4:=m4
 ·replace h:L124_4 0 z1 l4 b19=some r:=h
  rw[L124_4]at h
  cases h
 replace h:L124_4 (m4+1) z1 l4 b19=some r:=h
 rw[L124_4]at h
 try cbv
 cases b19
 rotate_left
 ·replace h:=itT h
  try cbv
  refine seq_go ?_
  try cbv
  obtain rfl:=Option.some.inj h
  refine finQ_go hQ ?_
  try cbv
  exact⟨[],by trivial⟩
 replace h:=itF h
 try cbv
 refine seq_joinB 26 [1,2,3,4,7,26] [.loc 0,.loc 32,.loc 128] 576 (fun m b=>m<=m4/\L124_5 m z1 l4 b=some r) ?_ ?_
 ·try cbv
  refine splitI (fun e=>?_) (fun e=>?_)
  ·replace h:=ite_t e h
   clear e
   try cbv
   exact join_next (m4,true) [1,2,3,4,7,26] [.loc 0,.loc 32,.loc 128] 576 ⟨by omega,h⟩ (by cbv)
  replace h:=ite_f e h
  clear e
  try cbv
  exact join_next (m4,false) [1,2,3,4,7,26] [.loc 0,.loc 32,.loc 128] 576 ⟨by omega,h⟩ (by cbv)
 clear h
 rintro⟨m5,b20⟩ ⟨hm5,h⟩
 try cbv
 replace hm5:m5<=m4:=hm5
 obtain _ | m5:=m5
 ·replace h:L124_5 0 z1 l4 b20=some r:=h
  rw[L124_5]at h
  cases h
 replace h:L124_5 (m5+1) z1 l4 b20=some r:=h
 rw[L124_5]at h
 try cbv
 cases b20
 rotate_left
 ·replace h:=itT h
  try cbv
  refine seq_go ?_
  try cbv
  obtain rfl:=Option.some.inj h
  refine finQ_go hQ ?_
  try cbv
  exact⟨[],by trivial⟩
 replace h:=itF h
 try cbv
 refine seq_joinB 29 [1,2,3,4,7,29] [.loc 0,.loc 32,.loc 128] 640 (fun m b=>m<=m5/\L124_6 m z1 l4 b=some r) ?_ ?_
 ·try cbv
  refine splitI (fun e=>?_) (fun e=>?_)
  ·replace h:=ite_t e h
   clear e
   try cbv
   exact join_next (m5,true) [1,2,3,4,7,29] [.loc 0,.loc 32,.loc 128] 640 ⟨by omega,h⟩ (by cbv)
  replace h:=ite_f e h
  clear e
  try cbv
  exact join_next (m5,false) [1,2,3,4,7,29] [.loc 0,.loc 32,.loc 128] 640 ⟨by omega,h⟩ (by cbv)
 clear h
 rintro⟨m6,b21⟩ ⟨hm6,h⟩
 try cbv
 replace hm6:m6<=m5:=hm6
 obtain _ | m6:=m6
 ·replace h:L124_6 0 z1 l4 b21=some r:=h
  rw[L124_6]at h
  cases h
 replace h:L124_6 (m6+1) z1 l4 b21=some r:=h
 rw[L124_6]at h
 try cbv
 cases b21
 rotate_left
 ·replace h:=itT h
  try cbv
  refine seq_go ?_
  try cbv
  obtain rfl:=Option.some.inj h
  refine finQ_go hQ ?_
  try cbv
  exact⟨[],by trivial⟩
 replace h:=itF h
 try cbv
 refine seq_joinB 34 [1,2,3,4,7,34] [.loc 0,.loc 32,.loc 128] 704 (fun m b=>m<=m6/\L124_7 m z1 l4 b=some r) ?_ ?_
 ·try cbv
  refine splitI (fun e=>?_) (fun e=>?_)
  ·replace h:=ite_t e h
   clear e
   try cbv
   exact join_next (m6,true) [1,2,3,4,7,34] [.loc 0,.loc 32,.loc 128] 704 ⟨by omega,h⟩ (by cbv)
  replace h:=ite_f e h
  clear e
  try cbv
  exact join_next (m6,false) [1,2,3,4,7,34] [.loc 0,.loc 32,.loc 128] 704 ⟨by omega,h⟩ (by cbv)
 clear h
 rintro⟨m7,b22⟩ ⟨hm7,h⟩
 try cbv
 replace hm7:m7<=m6:=hm7
 obtain _ | m7:=m7
 ·replace h:L124_7 0 z1 l4 b22=some r:=h
  rw[L124_7]at h
  cases h
 replace h:L124_7 (m7+1) z1 l4 b22=some r:=h
 rw[L124_7]at h
 try cbv
 cases b22
 rotate_left
 ·replace h:=itT h
  try cbv
  refine seq_go ?_
  try cbv
  obtain rfl:=Option.some.inj h
  refine finQ_go hQ ?_
  try cbv
  exact⟨[],by trivial⟩
 replace h:=itF h
 try cbv
 refine seq_joinB 38 [1,2,3,4,7,38] [.loc 0,.loc 32,.loc 128] 768 (fun m b=>m<=m7/\L124_8 m z1 l4 b=some r) ?_ ?_
 ·try cbv
  refine splitI (fun e=>?_) (fun e=>?_)
  ·replace h:=ite_t e h
   clear e
   try cbv
   exact join_next (m7,true) [1,2,3,4,7,38] [.loc 0,.loc 32,.loc 128] 768 ⟨by omega,h⟩ (by cbv)
  replace h:=ite_f e h
  clear e
  try cbv
  exact join_next (m7,false) [1,2,3,4,7,38] [.loc 0,.loc 32,.loc 128] 768 ⟨by omega,h⟩ (by cbv)
 clear h
 rintro⟨m8,b23⟩ ⟨hm8,h⟩
 try cbv
 replace hm8:m8<=m7:=hm8
 obtain _ | m8:=m8
 ·replace h:L124_8 0 z1 l4 b23=some r:=h
  rw[L124_8]at h
  cases h
 replace h:L124_8 (m8+1) z1 l4 b23=some r:=h
 rw[L124_8]at h
 try cbv
 cases b23
 rotate_left
 ·replace h:=itT h
  try cbv
  refine seq_go ?_
  try cbv
  obtain rfl:=Option.some.inj h
  refine finQ_go hQ ?_
  try cbv
  exact⟨[],by trivial⟩
 replace h:=itF h
 try cbv
 refine seq_joinB 43 [1,2,3,4,7,43] [.loc 0,.loc 32,.loc 128] 896 (fun m b=>m<=m8/\L124_10 m z1 l4 b=some r) ?_ ?_
 ·try cbv
  refine seq_joinB 43 [1,2,3,4,7,43] [.loc 0,.loc 32,.loc 128] 832 (fun m b=>m<=m8/\L124_9 m z1 l4 b=some r) ?_ ?_
  ·try cbv
   refine splitI (fun e=>?_) (fun e=>?_)
   ·replace h:=ite_t e h
    clear e
    try cbv
    exact join_next (m8,true) [1,2,3,4,7,43] [.loc 0,.loc 32,.loc 128] 832 ⟨by omega,h⟩ (by cbv)
   replace h:=ite_f e h
   clear e
   try cbv
   exact join_next (m8,false) [1,2,3,4,7,43] [.loc 0,.loc 32,.loc 128] 832 ⟨by omega,h⟩ (by cbv)
  clear h
  rintro⟨m9,b24⟩ ⟨hm9,h⟩
  try cbv
  replace hm9:m9<=m8:=hm9
  obtain _ | m9:=m9
  ·replace h:L124_9 0 z1 l4 b24=some r:=h
   rw[L124_9]at h
   cases h
  replace h:L124_9 (m9+1) z1 l4 b24=some r:=h
  rw[L124_9]at h
  try cbv
  cases b24
  ·replace h:=itF h
   try cbv
   refine splitI (fun e=>?_) (fun e=>?_)
   ·replace h:=ite_t e h
    clear e
    try cbv
    exact join_next (m9,true) [1,2,3,4,7,43] [.loc 0,.loc 32,.loc 128] 896 ⟨by omega,h⟩ (by cbv)
   replace h:=ite_f e h
   clear e
   try cbv
   exact join_next (m9,false) [1,2,3,4,7,43] [.loc 0,.loc 32,.loc 128] 896 ⟨by omega,h⟩ (by cbv)
  replace h:=itT h
  try cbv
  exact join_next (m9,true) [1,2,3,4,7,43] [.loc 0,.loc 32,.loc 128] 896 ⟨by omega,h⟩ (by cbv)
 clear h
 rintro⟨m10,b25⟩ ⟨hm10,h⟩
 try cbv
 replace hm10:m10<=m8:=hm10
 obtain _ | m10:=m10
 ·replace h:L124_10 0 z1 l4 b25=some r:=h
  rw[L124_10]at h
  cases h
 replace h:L124_10 (m10+1) z1 l4 b25=some r:=h
 rw[L124_10]at h
 try cbv
 cases b25
 rotate_left
 ·replace h:=itT h
  try cbv
  refine seq_go ?_
  try cbv
  obtain rfl:=Option.some.inj h
  refine finQ_go hQ ?_
  try cbv
  exact⟨[],by trivial⟩
 replace h:=itF h
 try cbv
 refine seq_joinB 47 [1,2,3,4,7,47] [.loc 0,.loc 32,.loc 128] 960 (fun m b=>m<=m10/\L124_11 m z1 l4 b=some r) ?_ ?_
 ·try cbv
  refine splitI (fun e=>?_) (fun e=>?_)
  ·replace h:=ite_t e h
   clear e
   try cbv
   exact join_next (m10,true) [1,2,3,4,7,47] [.loc 0,.loc 32,.loc 128] 960 ⟨by omega,h⟩ (by cbv)
  replace h:=ite_f e h
  clear e
  try cbv
  exact join_next (m10,false) [1,2,3,4,7,47] [.loc 0,.loc 32,.loc 128] 960 ⟨by omega,h⟩ (by cbv)
 clear h
 rintro⟨m11,b26⟩ ⟨hm11,h⟩
 try cbv
 replace hm11:m11<=m10:=hm11
 obtain _ | m11:=m11
 ·replace h:L124_11 0 z1 l4 b26=some r:=h
  rw[L124_11]at h
  cases h
 replace h:L124_11 (m11+1) z1 l4 b26=some r:=h
 rw[L124_11]at h
 try cbv
 cases b26
 rotate_left
 ·replace h:=itT h
  try cbv
  replace h:=lenF_inv M h
  obtain⟨z27,hz,h⟩:=h
  refine⟨z27,hz,?_⟩
  clear hz
  try cbv
  refine drawn ?_ ?_
  ·show _=true
   kernel_rfl
  try cbv
  refine seq_go ?_
  try cbv
  obtain rfl:=Option.some.inj h
  refine finQ_go hQ ?_
  try cbv
  exact⟨[],by trivial⟩
 replace h:=itF h
 try cbv
 refine seq_joinB 56 [2,3,4,7,56] [.loc 32,.loc 128] 1024 (fun m b=>m<=m11/\L124_12 m z1 b=some r) ?_ ?_
 ·try cbv
  refine splitI (fun e=>?_) (fun e=>?_)
  ·replace h:=ite_t e h
   clear e
   try cbv
   exact join_next (m11,true) [2,3,4,7,56] [.loc 32,.loc 128] 1024 ⟨by omega,h⟩ (by cbv)
  replace h:=ite_f e h
  clear e
  try cbv
  exact join_next (m11,false) [2,3,4,7,56] [.loc 32,.loc 128] 1024 ⟨by omega,h⟩ (by cbv)
 clear h
 rintro⟨m12,b28⟩ ⟨hm12,h⟩
 try cbv
 replace hm12:m12<=m11:=hm12
 obtain _ | m12:=m12
 ·replace h:L124_12 0 z1 b28=some r:=h
  rw[L124_12]at h
  cases h
 replace h:L124_12 (m12+1) z1 b28=some r:=h
 rw[L124_12]at h
 try cbv
 cases b28
 rotate_left
 ·replace h:=itT h
  try cbv
  refine seq_go ?_
  try cbv
  obtain rfl:=Option.some.inj h
  refine finQ_go hQ ?_
  try cbv
  exact⟨[],by trivial⟩
 replace h:=itF h
 try cbv
 refine seq_joinB 61 [2,3,4,61] [.loc 32,.loc 128] 1088 (fun m b=>m<=m12/\L124_13 m b=some r) ?_ ?_
 ·try cbv
  refine splitI (fun e=>?_) (fun e=>?_)
  ·replace h:=ite_t e h
   clear e
   try cbv
   exact join_next (m12,true) [2,3,4,61] [.loc 32,.loc 128] 1088 ⟨by omega,h⟩ (by cbv)
  replace h:=ite_f e h
  clear e
  try cbv
  exact join_next (m12,false) [2,3,4,61] [.loc 32,.loc 128] 1088 ⟨by omega,h⟩ (by cbv)
 clear h
 rintro⟨m13,b29⟩ ⟨hm13,h⟩
 try cbv
 replace hm13:m13<=m12:=hm13
 obtain _ | m13:=m13
 ·replace h:L124_13 0 b29=some r:=h
  rw[L124_13]at h
  cases h
 replace h:L124_13 (m13+1) b29=some r:=h
 rw[L124_13]at h
 try cbv
 cases b29
 ·replace h:=itF h
  try cbv
  refine seq_go ?_
  try cbv
  obtain rfl:=Option.some.inj h
  refine finQ_go hQ ?_
  try cbv
  exact⟨[],by trivial⟩
 replace h:=itT h
 try cbv
 refine seq_go ?_
 try cbv
 obtain rfl:=Option.some.inj h
 refine finQ_go hQ ?_
 try cbv
 exact⟨[],by trivial⟩
def L125_1:Nat->Int->Bool->Option (Bool)
 | 0,_,_=>none
 | n+1,z8,b16=>
  (if b16=true then (if (1:Int)<=z8 then (if z8<=(8:Int)then some true else some false)else some false)else (if z8=(0:Int)then some true else some false))
def F125 (n:Nat) (z1:Int) (s2:BA) (s3:BA) (l4:LD) (z5:Int) (s6:BA) (l7:LD) (z8:Int) (s9:BA) (l10:LD) (l11:LD) (l12:LD) (l13:LD) (l14:LD) (z15:Int):Option (Bool):=
 (if z1=(12:Int)then L125_1 n z8 true else L125_1 n z8 false)
theorem T125 (n:Nat):∀⦃z1 s2 s3 l4 z5 s6 l7 z8 s9 l10 l11 l12 l13 l14 z15 r1⦄,F125 n z1 s2 s3 l4 z5 s6 l7 z8 s9 l10 l11 l12 l13 l14 z15=some r1->
    Trip Tryz.prog inv 125 [.d (.agg [.int .u8 z1,.str s2,.str s3,.list false 1 l4,.int .u8 z5,.str s6,.list true 3 l7,.int .i64 z8,.str s9,.list false 1 l10,.list true 8 l11,.list true 15 l12,.list true 15 l13,.list true 3 l14,.int .i64 z15])] [] (.v (.d (.bool r1))) [] []:=by
 intro z1 s2 s3 l4 z5 s6 l7 z8 s9 l10 l11 l12 l13 l14 z15 r1 h
 unfold F125 at h
 refine Trip.of tab_ok tab_one fol Tryz.func125 rfl (by kernel_rfl) rfl rfl rfl (fun M hM hI=>?_)
 try cbv
 refine seq_go ?_
 try cbv
 refine seq_go ?_
 try cbv
 refine seq_joinB 5 [1,2,5] [.loc 0] 160 (fun m b=>m<=n/\L125_1 m z8 b=some r1) ?_ ?_
 ·try cbv
  refine splitI (fun e=>?_) (fun e=>?_)
  ·replace h:=ite_t e h
   clear e
   try cbv
   exact join_next (n,true) [1,2,5] [.loc 0] 160 ⟨by omega,h⟩ (by cbv)
  replace h:=ite_f e h
  clear e
  try cbv
  exact join_next (n,false) [1,2,5] [.loc 0] 160 ⟨by omega,h⟩ (by cbv)
 clear h
 rintro⟨m1,b16⟩ ⟨hm1,h⟩
 try cbv
 replace hm1:m1<=n:=hm1
 obtain _ | m1:=m1
 ·replace h:L125_1 0 z8 b16=some r1:=h
  rw[L125_1]at h
  cases h
 replace h:L125_1 (m1+1) z8 b16=some r1:=h
 rw[L125_1]at h
 try cbv
 cases b16
 ·replace h:=itF h
  try cbv
  refine seq_go ?_
  try cbv
  refine splitI (fun e=>?_) (fun e=>?_)
  ·replace h:=ite_t e h
   clear e
   try cbv
   obtain rfl:=Option.some.inj h
   refine fin_go ?_
   try cbv
   exact⟨[],by trivial⟩
  replace h:=ite_f e h
  clear e
  try cbv
  obtain rfl:=Option.some.inj h
  refine fin_go ?_
  try cbv
  exact⟨[],by trivial⟩
 replace h:=itT h
 try cbv
 refine seq_go ?_
 try cbv
 refine splitLe (fun e=>?_) (fun e=>?_)
 ·replace h:=ite_t e h
  clear e
  try cbv
  refine splitLe (fun e=>?_) (fun e=>?_)
  ·replace h:=ite_t e h
   clear e
   try cbv
   obtain rfl:=Option.some.inj h
   refine fin_go ?_
   try cbv
   exact⟨[],by trivial⟩
  replace h:=ite_f (Int.not_le.2 e) h
  clear e
  try cbv
  obtain rfl:=Option.some.inj h
  refine fin_go ?_
  try cbv
  exact⟨[],by trivial⟩
 replace h:=ite_f (Int.not_le.2 e) h
 clear e
 try cbv
 obtain rfl:=Option.some.inj h
 refine fin_go ?_
 try cbv
 exact⟨[],by trivial⟩
def F126 (n:Nat) (s1:BA) (l2:LD):Option (Bool):=
 (if s1=ByteArray.empty then lenF l2 fun z3=>(if z3=(0:Int)then some true else some false)else some false)
theorem T126 (n:Nat):∀⦃s1 l2 r1⦄,F126 n s1 l2=some r1->
    Trip Tryz.prog inv 126 [.d (.agg [.str s1,.list false 1 l2])] [] (.v (.d (.bool r1))) [] []:=by
 intro s1 l2 r1 h
 unfold F126 at h
 refine Trip.of tab_ok tab_one fol Tryz.func126 rfl (by kernel_rfl) rfl rfl rfl (fun M hM hI=>?_)
 try cbv
 refine seq_go ?_
 try cbv
 refine seq_go ?_
 try cbv
 refine splitS (fun e=>?_) (fun e=>?_)
 rotate_left
 ·replace h:=ite_f (bytes_ne.1 e) h
  clear e
  try cbv
  obtain rfl:=Option.some.inj h
  refine fin_go ?_
  try cbv
  exact⟨[],by trivial⟩
 replace h:=ite_t (bytes_eq.1 e) h
 clear e
 try cbv
 replace h:=lenF_inv M h
 obtain⟨z3,hz,h⟩:=h
 refine⟨z3,hz,?_⟩
 clear hz
 try cbv
 refine splitI (fun e=>?_) (fun e=>?_)
 ·replace h:=ite_t e h
  clear e
  try cbv
  obtain rfl:=Option.some.inj h
  refine fin_go ?_
  try cbv
  exact⟨[],by trivial⟩
 replace h:=ite_f e h
 clear e
 try cbv
 obtain rfl:=Option.some.inj h
 refine fin_go ?_
 try cbv
 exact⟨[],by trivial⟩
def F145 (n:Nat) (s1:BA):Option (Bool):=
 (if s1=ByteArray.empty then some true else some false)
theorem T145 (n:Nat):∀⦃s1 r1⦄,F145 n s1=some r1->
    Trip Tryz.prog inv 145 [.d (.str s1)] [] (.v (.d (.bool r1))) [] []:=by
 intro s1 r1 h
 unfold F145 at h
 refine Trip.of tab_ok tab_one fol Tryz.func145 rfl (by kernel_rfl) rfl rfl rfl (fun M hM hI=>?_)
 try cbv
 refine seq_go ?_
 try cbv
 refine seq_go ?_
 try cbv
 refine splitS (fun e=>?_) (fun e=>?_)
 ·replace h:=ite_t (bytes_eq.1 e) h
  clear e
  try cbv
  obtain rfl:=Option.some.inj h
  refine fin_go ?_
  try cbv
  exact⟨[],by trivial⟩
 replace h:=ite_f (bytes_ne.1 e) h
 clear e
 try cbv
 obtain rfl:=Option.some.inj h
 refine fin_go ?_
 try cbv
 exact⟨[],by trivial⟩
def F94 (n:Nat) (s1:BA):Option (Bool):=
 (if s1=k__ then some true else bO1 (F74 n s1) fun b2=>some b2)
theorem T94 (n:Nat):∀⦃s1 r1⦄,F94 n s1=some r1->
    Trip Tryz.prog inv 94 [.d (.str s1)] [] (.v (.d (.bool r1))) [] []:=by
 intro s1 r1 h
 unfold F94 at h
 refine Trip.of tab_ok tab_one fol Tryz.func94 rfl (by kernel_rfl) rfl rfl rfl (fun M hM hI=>?_)
 try cbv
 refine seq_go ?_
 try cbv
 refine seq_go ?_
 try cbv
 refine splitS (fun e=>?_) (fun e=>?_)
 ·replace h:=ite_t (bytes_eq.1 e) h
  clear e
  try cbv
  obtain rfl:=Option.some.inj h
  refine fin_go ?_
  try cbv
  exact⟨[],by trivial⟩
 replace h:=ite_f (bytes_ne.1 e) h
 clear e
 try cbv
 replace h:=bO1_inv h
 obtain⟨b2,hr,h⟩:=h
 refine call_go rfl rfl ?_
 try cbv
 refine call_pure hM hI (T74 _ hr) rfl ?_
 clear hr
 try cbv
 obtain rfl:=Option.some.inj h
 refine fin_go ?_
 try cbv
 exact⟨[],by trivial⟩
mutual
def L93_1:Nat->LD->Int->Int->Option (Bool)
 | 0,_,_,_=>none
 | n+1,l1,z2,z3=>
  lenF l1 fun z4=>(if z3<z4 then (if z3<z2 then L93_2 n l1 z2 z3 true else L93_2 n l1 z2 z3 false)else L93_2 n l1 z2 z3 false)
def L93_2:Nat->LD->Int->Int->Bool->Option (Bool)
 | 0,_,_,_,_=>none
 | n+1,l1,z2,z3,b5=>
  (if b5=true then getF l1 z3 fun x6=>ds_str x6 fun s7=>bO1 (F94 n s7) fun b8=>letB (!b8) fun b9=>(if b9=true then some false else letF (IntKind.wrap .i64 (z3+1)) fun z10=>L93_1 n l1 z2 z10)else lenF l1 fun z11=>(if z11<=z2 then some true else some false))
end
def F93 (n:Nat) (l1:LD) (z2:Int):Option (Bool):=
 L93_1 n l1 z2 (0:Int)
theorem T93 (n:Nat):∀⦃l1 z2 r1⦄,F93 n l1 z2=some r1->
    Trip Tryz.prog inv 93 [.d (.list false 1 l1),.d (.int .i64 z2),.c (.fn 94 [])] [] (.v (.d (.bool r1))) [] []:=by
 intro l1 z2 r1 h
 unfold F93 at h
 refine Trip.of tab_ok tab_one fol Tryz.func93 rfl (by kernel_rfl) rfl rfl rfl (fun M hM hI=>?_)
 try cbv
 refine seq_go ?_
 try cbv
 refine seq_go ?_
 try cbv
 refine seq_go ?_
 try cbv
 refine loop_inv (T:=Nat×Int) [0,1,2,6,7] [] 64 (fun t=>⟨[sF 0 1 l1,sI 1 z2,(2,.v (.c (.fn 94 []))),sB 6 false,sI 7 t.2],[],64⟩)
   (fun t=>t.1<=n/\L93_1 t.1 l1 z2 t.2=some r1) (fun t=>t.1) (n,(0:Int)) ⟨Nat.le_refl _,h⟩ (by cbv) ?_
 clear h
 rintro⟨m1,z3⟩ ⟨hm1,h⟩
 replace hm1:m1<=n:=hm1
 obtain _ | m1:=m1
 ·replace h:L93_1 0 l1 z2 z3=some r1:=h
  rw[L93_1]at h
  cases h
 replace h:L93_1 (m1+1) l1 z2 z3=some r1:=h
 rw[L93_1]at h
 try cbv
 refine seq_go ?_
 try cbv
 refine seq_joinB 16 [0,1,2,6,7,16] [] 352 (fun m b=>m<=m1/\L93_2 m l1 z2 z3 b=some r1) ?_ ?_
 ·try cbv
  replace h:=lenF_inv M h
  obtain⟨z4,hz,h⟩:=h
  refine⟨z4,hz,?_⟩
  clear hz
  try cbv
  refine splitL (fun e=>?_) (fun e=>?_)
  ·replace h:=ite_t e h
   clear e
   try cbv
   refine splitL (fun e=>?_) (fun e=>?_)
   ·replace h:=ite_t e h
    clear e
    try cbv
    exact join_next (m1,true) [0,1,2,6,7,16] [] 352 ⟨by omega,h⟩ (by cbv)
   replace h:=ite_f (Int.not_lt.2 e) h
   clear e
   try cbv
   exact join_next (m1,false) [0,1,2,6,7,16] [] 352 ⟨by omega,h⟩ (by cbv)
  replace h:=ite_f (Int.not_lt.2 e) h
  clear e
  try cbv
  exact join_next (m1,false) [0,1,2,6,7,16] [] 352 ⟨by omega,h⟩ (by cbv)
 clear h
 rintro⟨m2,b5⟩ ⟨hm2,h⟩
 try cbv
 replace hm2:m2<=m1:=hm2
 obtain _ | m2:=m2
 ·replace h:L93_2 0 l1 z2 z3 b5=some r1:=h
  rw[L93_2]at h
  cases h
 replace h:L93_2 (m2+1) l1 z2 z3 b5=some r1:=h
 rw[L93_2]at h
 try cbv
 cases b5
 ·replace h:=itF h
  try cbv
  refine seq_go ?_
  try cbv
  replace h:=lenF_inv M h
  obtain⟨z11,hz,h⟩:=h
  refine⟨z11,hz,?_⟩
  clear hz
  try cbv
  refine splitLe (fun e=>?_) (fun e=>?_)
  ·replace h:=ite_t e h
   clear e
   try cbv
   obtain rfl:=Option.some.inj h
   refine fin_go ?_
   try cbv
   exact⟨[],by trivial⟩
  replace h:=ite_f (Int.not_le.2 e) h
  clear e
  try cbv
  obtain rfl:=Option.some.inj h
  refine fin_go ?_
  try cbv
  exact⟨[],by trivial⟩
 replace h:=itT h
 try cbv
 refine seq_go ?_
 try cbv
 refine seq_go ?_
 try cbv
 replace h:=getF_inv h
 obtain⟨x6,⟨hx0,hx⟩,h⟩:=h
 refine⟨x6,hx0,hx,?_⟩
 clear hx0 hx
 replace h:=ds_str_inv h
 obtain⟨s7,rfl,h⟩:=h
 try cbv
 replace h:=bO1_inv h
 obtain⟨b8,hr,h⟩:=h
 refine call_go rfl rfl ?_
 try cbv
 refine call_pure hM hI (T94 _ hr) rfl ?_
 clear hr
 try cbv
 replace h:=letB_inv h
 obtain⟨b9,hz,h⟩:=h
 refine⟨b9,not_eq' hz,?_⟩
 clear hz
 try cbv
 cases b9
 ·replace h:=itF h
  try cbv
  replace h:=letF_inv h
  obtain⟨z10,hz,h⟩:=h
  refine⟨z10,hz,?_⟩
  clear hz
  try cbv
  exact loop_next (m2,z10) [0,1,2,6,7] [] 64 ⟨by omega,h⟩ (Nat.lt_succ_of_le (by omega)) (by cbv)
 replace h:=itT h
 try cbv
 refine seq_go ?_
 try cbv
 obtain rfl:=Option.some.inj h
 refine fin_go ?_
 try cbv
 exact⟨[],by trivial⟩
def F52 (n:Nat) (s1:BA) (l2:LD):Option (Bool):=
 bO1 (F74 n s1) fun b3=>(if b3=true then bO1 (F93 n l2 (40:Int)) fun b4=>some b4 else some false)
theorem T52 (n:Nat):∀⦃s1 l2 r1⦄,F52 n s1 l2=some r1->
    Trip Tryz.prog inv 52 [.d (.agg [.str s1,.list false 1 l2])] [] (.v (.d (.bool r1))) [] []:=by
 intro s1 l2 r1 h
 unfold F52 at h
 refine Trip.of tab_ok tab_one fol Tryz.func52 rfl (by kernel_rfl) rfl rfl rfl (fun M hM hI=>?_)
 try cbv
 refine seq_go ?_
 try cbv
 refine seq_go ?_
 try cbv
 replace h:=bO1_inv h
 obtain⟨b3,hr,h⟩:=h
 refine call_go rfl rfl ?_
 try cbv
 refine call_pure hM hI (T74 _ hr) rfl ?_
 clear hr
 try cbv
 cases b3
 ·replace h:=itF h
  try cbv
  obtain rfl:=Option.some.inj h
  refine fin_go ?_
  try cbv
  exact⟨[],by trivial⟩
 replace h:=itT h
 try cbv
 replace h:=bO1_inv h
 obtain⟨b4,hr,h⟩:=h
 refine call_go rfl rfl ?_
 try cbv
 refine call_pure hM hI (T93 _ hr) rfl ?_
 clear hr
 try cbv
 obtain rfl:=Option.some.inj h
 refine fin_go ?_
 try cbv
 exact⟨[],by trivial⟩
mutual
def L93x1_1:Nat->LD->Int->Int->Option (Bool)
 | 0,_,_,_=>none
 | n+1,l1,z2,z3=>
  lenF l1 fun z4=>(if z3<z4 then (if z3<z2 then L93x1_2 n l1 z2 z3 true else L93x1_2 n l1 z2 z3 false)else L93x1_2 n l1 z2 z3 false)
def L93x1_2:Nat->LD->Int->Int->Bool->Option (Bool)
 | 0,_,_,_,_=>none
 | n+1,l1,z2,z3,b5=>
  (if b5=true then getF l1 z3 fun x6=>ds_str x6 fun s7=>bO1 (F74 n s7) fun b8=>letB (!b8) fun b9=>(if b9=true then some false else letF (IntKind.wrap .i64 (z3+1)) fun z10=>L93x1_1 n l1 z2 z10)else lenF l1 fun z11=>(if z11<=z2 then some true else some false))
end
def F93x1 (n:Nat) (l1:LD) (z2:Int):Option (Bool):=
 L93x1_1 n l1 z2 (0:Int)
theorem T93x1 (n:Nat):∀⦃l1 z2 r1⦄,F93x1 n l1 z2=some r1->
    Trip Tryz.prog inv 93 [.d (.list false 1 l1),.d (.int .i64 z2),.c (.fn 74 [])] [] (.v (.d (.bool r1))) [] []:=by
 intro l1 z2 r1 h
 unfold F93x1 at h
 refine Trip.of tab_ok tab_one fol Tryz.func93 rfl (by kernel_rfl) rfl rfl rfl (fun M hM hI=>?_)
 try cbv
 refine seq_go ?_
 try cbv
 refine seq_go ?_
 try cbv
 refine seq_go ?_
 try cbv
 refine loop_inv (T:=Nat×Int) [0,1,2,6,7] [] 64 (fun t=>⟨[sF 0 1 l1,sI 1 z2,(2,.v (.c (.fn 74 []))),sB 6 false,sI 7 t.2],[],64⟩)
   (fun t=>t.1<=n/\L93x1_1 t.1 l1 z2 t.2=some r1) (fun t=>t.1) (n,(0:Int)) ⟨Nat.le_refl _,h⟩ (by cbv) ?_
 clear h
 rintro⟨m1,z3⟩ ⟨hm1,h⟩
 replace hm1:m1<=n:=hm1
 obtain _ | m1:=m1
 ·replace h:L93x1_1 0 l1 z2 z3=some r1:=h
  rw[L93x1_1]at h
  cases h
 replace h:L93x1_1 (m1+1) l1 z2 z3=some r1:=h
 rw[L93x1_1]at h
 try cbv
 refine seq_go ?_
 try cbv
 refine seq_joinB 16 [0,1,2,6,7,16] [] 352 (fun m b=>m<=m1/\L93x1_2 m l1 z2 z3 b=some r1) ?_ ?_
 ·try cbv
  replace h:=lenF_inv M h
  obtain⟨z4,hz,h⟩:=h
  refine⟨z4,hz,?_⟩
  clear hz
  try cbv
  refine splitL (fun e=>?_) (fun e=>?_)
  ·replace h:=ite_t e h
   clear e
   try cbv
   refine splitL (fun e=>?_) (fun e=>?_)
   ·replace h:=ite_t e h
    clear e
    try cbv
    exact join_next (m1,true) [0,1,2,6,7,16] [] 352 ⟨by omega,h⟩ (by cbv)
   replace h:=ite_f (Int.not_lt.2 e) h
   clear e
   try cbv
   exact join_next (m1,false) [0,1,2,6,7,16] [] 352 ⟨by omega,h⟩ (by cbv)
  replace h:=ite_f (Int.not_lt.2 e) h
  clear e
  try cbv
  exact join_next (m1,false) [0,1,2,6,7,16] [] 352 ⟨by omega,h⟩ (by cbv)
 clear h
 rintro⟨m2,b5⟩ ⟨hm2,h⟩
 try cbv
 replace hm2:m2<=m1:=hm2
 obtain _ | m2:=m2
 ·replace h:L93x1_2 0 l1 z2 z3 b5=some r1:=h
  rw[L93x1_2]at h
  cases h
 replace h:L93x1_2 (m2+1) l1 z2 z3 b5=some r1:=h
 rw[L93x1_2]at h
 try cbv
 cases b5
 ·replace h:=itF h
  try cbv
  refine seq_go ?_
  try cbv
  replace h:=lenF_inv M h
  obtain⟨z11,hz,h⟩:=h
  refine⟨z11,hz,?_⟩
  clear hz
  try cbv
  refine splitLe (fun e=>?_) (fun e=>?_)
  ·replace h:=ite_t e h
   clear e
   try cbv
   obtain rfl:=Option.some.inj h
   refine fin_go ?_
   try cbv
   exact⟨[],by trivial⟩
  replace h:=ite_f (Int.not_le.2 e) h
  clear e
  try cbv
  obtain rfl:=Option.some.inj h
  refine fin_go ?_
  try cbv
  exact⟨[],by trivial⟩
 replace h:=itT h
 try cbv
 refine seq_go ?_
 try cbv
 refine seq_go ?_
 try cbv
 replace h:=getF_inv h
 obtain⟨x6,⟨hx0,hx⟩,h⟩:=h
 refine⟨x6,hx0,hx,?_⟩
 clear hx0 hx
 replace h:=ds_str_inv h
 obtain⟨s7,rfl,h⟩:=h
 try cbv
 replace h:=bO1_inv h
 obtain⟨b8,hr,h⟩:=h
 refine call_go rfl rfl ?_
 try cbv
 refine call_pure hM hI (T74 _ hr) rfl ?_
 clear hr
 try cbv
 replace h:=letB_inv h
 obtain⟨b9,hz,h⟩:=h
 refine⟨b9,not_eq' hz,?_⟩
 clear hz
 try cbv
 cases b9
 ·replace h:=itF h
  try cbv
  replace h:=letF_inv h
  obtain⟨z10,hz,h⟩:=h
  refine⟨z10,hz,?_⟩
  clear hz
  try cbv
  exact loop_next (m2,z10) [0,1,2,6,7] [] 64 ⟨by omega,h⟩ (Nat.lt_succ_of_le (by omega)) (by cbv)
 replace h:=itT h
 try cbv
 refine seq_go ?_
 try cbv
 obtain rfl:=Option.some.inj h
 refine fin_go ?_
 try cbv
 exact⟨[],by trivial⟩
def L95_26:Nat->Int->Bool->Option (Bool×Int×Int×Bool)
 | 0,_,_=>none
 | n+1,z1,b27=>
  (if b27=true then some (false,(2:Int),(2:Int),true)else (if (1:Int)<=z1 then (if z1<=(36:Int)then some (false,(1:Int),(1:Int),true)else some (false,(1:Int),(1:Int),false))else some (false,(1:Int),(1:Int),false)))
def L95_25:Nat->Int->Bool->Option (Bool×Int×Int×Bool)
 | 0,_,_=>none
 | n+1,z1,b26=>
  (if b26=true then L95_26 n z1 true else (if z1=(17:Int)then L95_26 n z1 true else L95_26 n z1 false))
def L95_24:Nat->Int->Bool->Option (Bool×Int×Int×Bool)
 | 0,_,_=>none
 | n+1,z1,b25=>
  (if b25=true then L95_26 n z1 true else (if z1=(16:Int)then L95_25 n z1 true else L95_25 n z1 false))
def L95_23:Nat->Int->Bool->Option (Bool×Int×Int×Bool)
 | 0,_,_=>none
 | n+1,z1,b24=>
  (if b24=true then L95_26 n z1 true else (if z1=(15:Int)then L95_24 n z1 true else L95_24 n z1 false))
def L95_22:Nat->Int->Bool->Option (Bool×Int×Int×Bool)
 | 0,_,_=>none
 | n+1,z1,b23=>
  (if b23=true then L95_26 n z1 true else (if z1=(14:Int)then L95_23 n z1 true else L95_23 n z1 false))
def L95_21:Nat->Int->Bool->Option (Bool×Int×Int×Bool)
 | 0,_,_=>none
 | n+1,z1,b22=>
  (if b22=true then L95_26 n z1 true else (if z1=(13:Int)then L95_22 n z1 true else L95_22 n z1 false))
def L95_20:Nat->Int->Bool->Option (Bool×Int×Int×Bool)
 | 0,_,_=>none
 | n+1,z1,b21=>
  (if b21=true then L95_26 n z1 true else (if z1=(12:Int)then L95_21 n z1 true else L95_21 n z1 false))
def L95_19:Nat->Int->Bool->Option (Bool×Int×Int×Bool)
 | 0,_,_=>none
 | n+1,z1,b20=>
  (if b20=true then L95_26 n z1 true else (if z1=(11:Int)then L95_20 n z1 true else L95_20 n z1 false))
def L95_18:Nat->Int->Bool->Option (Bool×Int×Int×Bool)
 | 0,_,_=>none
 | n+1,z1,b19=>
  (if b19=true then L95_26 n z1 true else (if z1=(10:Int)then L95_19 n z1 true else L95_19 n z1 false))
def L95_17:Nat->Int->Bool->Option (Bool×Int×Int×Bool)
 | 0,_,_=>none
 | n+1,z1,b18=>
  (if b18=true then some (false,(0:Int),(1:Int),true)else (if z1=(9:Int)then L95_18 n z1 true else L95_18 n z1 false))
def L95_16:Nat->Int->Bool->Option (Bool×Int×Int×Bool)
 | 0,_,_=>none
 | n+1,z1,b17=>
  (if b17=true then some (false,(0:Int),(6:Int),true)else (if z1=(20:Int)then L95_17 n z1 true else L95_17 n z1 false))
def L95_15:Nat->Int->Bool->Option (Bool×Int×Int×Bool)
 | 0,_,_=>none
 | n+1,z1,b16=>
  (if b16=true then L95_16 n z1 true else (if z1=(19:Int)then L95_16 n z1 true else L95_16 n z1 false))
def L95_14:Nat->Int->Bool->Option (Bool×Int×Int×Bool)
 | 0,_,_=>none
 | n+1,z1,b15=>
  (if b15=true then some (true,(1:Int),(1:Int),true)else (if z1=(18:Int)then L95_15 n z1 true else L95_15 n z1 false))
def L95_13:Nat->Int->Bool->Option (Bool×Int×Int×Bool)
 | 0,_,_=>none
 | n+1,z1,b14=>
  (if b14=true then L95_14 n z1 true else (if z1=(35:Int)then L95_14 n z1 true else L95_14 n z1 false))
def L95_12:Nat->Int->Bool->Option (Bool×Int×Int×Bool)
 | 0,_,_=>none
 | n+1,z1,b13=>
  (if b13=true then L95_14 n z1 true else (if z1=(34:Int)then L95_13 n z1 true else L95_13 n z1 false))
def L95_11:Nat->Int->Bool->Option (Bool×Int×Int×Bool)
 | 0,_,_=>none
 | n+1,z1,b12=>
  (if b12=true then L95_14 n z1 true else (if z1=(33:Int)then L95_12 n z1 true else L95_12 n z1 false))
def L95_10:Nat->Int->Bool->Option (Bool×Int×Int×Bool)
 | 0,_,_=>none
 | n+1,z1,b11=>
  (if b11=true then some (true,(0:Int),(0:Int),true)else (if z1=(25:Int)then L95_11 n z1 true else L95_11 n z1 false))
def L95_9:Nat->Int->Bool->Option (Bool×Int×Int×Bool)
 | 0,_,_=>none
 | n+1,z1,b10=>
  (if b10=true then L95_10 n z1 true else (if z1=(36:Int)then L95_10 n z1 true else L95_10 n z1 false))
def L95_8:Nat->Int->Bool->Option (Bool×Int×Int×Bool)
 | 0,_,_=>none
 | n+1,z1,b9=>
  (if b9=true then L95_10 n z1 true else (if z1=(32:Int)then L95_9 n z1 true else L95_9 n z1 false))
def L95_7:Nat->Int->Bool->Option (Bool×Int×Int×Bool)
 | 0,_,_=>none
 | n+1,z1,b8=>
  (if b8=true then L95_10 n z1 true else (if z1=(28:Int)then L95_8 n z1 true else L95_8 n z1 false))
def L95_6:Nat->Int->Bool->Option (Bool×Int×Int×Bool)
 | 0,_,_=>none
 | n+1,z1,b7=>
  (if b7=true then L95_10 n z1 true else (if z1=(24:Int)then L95_7 n z1 true else L95_7 n z1 false))
def L95_5:Nat->Int->Bool->Option (Bool×Int×Int×Bool)
 | 0,_,_=>none
 | n+1,z1,b6=>
  (if b6=true then L95_10 n z1 true else (if z1=(6:Int)then L95_6 n z1 true else L95_6 n z1 false))
def L95_4:Nat->Int->Bool->Option (Bool×Int×Int×Bool)
 | 0,_,_=>none
 | n+1,z1,b5=>
  (if b5=true then L95_10 n z1 true else (if z1=(5:Int)then L95_5 n z1 true else L95_5 n z1 false))
def L95_3:Nat->Int->Bool->Option (Bool×Int×Int×Bool)
 | 0,_,_=>none
 | n+1,z1,b4=>
  (if b4=true then some (false,(0:Int),(0:Int),true)else (if z1=(4:Int)then L95_4 n z1 true else L95_4 n z1 false))
def L95_2:Nat->Int->Bool->Option (Bool×Int×Int×Bool)
 | 0,_,_=>none
 | n+1,z1,b3=>
  (if b3=true then L95_3 n z1 true else (if z1=(3:Int)then L95_3 n z1 true else L95_3 n z1 false))
def L95_1:Nat->Int->Bool->Option (Bool×Int×Int×Bool)
 | 0,_,_=>none
 | n+1,z1,b2=>
  (if b2=true then L95_3 n z1 true else (if z1=(2:Int)then L95_2 n z1 true else L95_2 n z1 false))
def F95 (n:Nat) (z1:Int):Option (Bool×Int×Int×Bool):=
 (if z1=(1:Int)then L95_1 n z1 true else L95_1 n z1 false)
theorem T95 (n:Nat):∀⦃z1 r1 r2 r3 r4⦄,F95 n z1=some (r1,r2,r3,r4)->
    Trip Tryz.prog inv 95 [.d (.int .u8 z1)] [] (.t [.d (.agg [.bool r1,.int .i64 r2,.int .i64 r3]),.d (.bool r4)]) [] []:=by
 intro z1 r1 r2 r3 r4 h
 unfold F95 at h
 refine Trip.of tab_ok tab_one fol Tryz.func95 rfl (by kernel_rfl) rfl rfl rfl (fun M hM hI=>?_)
 try cbv
 refine seq_go ?_
 try cbv
 refine seq_go ?_
 try cbv
 refine seq_go ?_
 try cbv
 refine seq_joinB 5 [0,2,3,4,5] [.loc 0] 288 (fun m b=>m<=n/\L95_3 m z1 b=some (r1,r2,r3,r4)) ?_ ?_
 ·try cbv
  refine seq_joinB 5 [0,2,3,4,5] [.loc 0] 160 (fun m b=>m<=n/\L95_1 m z1 b=some (r1,r2,r3,r4)) ?_ ?_
  ·try cbv
   refine splitI (fun e=>?_) (fun e=>?_)
   ·replace h:=ite_t e h
    clear e
    try cbv
    exact join_next (n,true) [0,2,3,4,5] [.loc 0] 160 ⟨by omega,h⟩ (by cbv)
   replace h:=ite_f e h
   clear e
   try cbv
   exact join_next (n,false) [0,2,3,4,5] [.loc 0] 160 ⟨by omega,h⟩ (by cbv)
  clear h
  rintro⟨m1,b2⟩ ⟨hm1,h⟩
  try cbv
  replace hm1:m1<=n:=hm1
  obtain _ | m1:=m1
  ·replace h:L95_1 0 z1 b2=some (r1,r2,r3,r4):=h
   rw[L95_1]at h
   cases h
  replace h:L95_1 (m1+1) z1 b2=some (r1,r2,r3,r4):=h
  rw[L95_1]at h
  try cbv
  cases b2
  rotate_left
  ·replace h:=itT h
   try cbv
   exact join_next (m1,true) [0,2,3,4,5] [.loc 0] 288 ⟨by omega,h⟩ (by cbv)
  replace h:=itF h
  try cbv
  refine seq_joinB 5 [0,2,3,4,5] [.loc 0] 224 (fun m b=>m<=m1/\L95_2 m z1 b=some (r1,r2,r3,r4)) ?_ ?_
  ·try cbv
   refine splitI (fun e=>?_) (fun e=>?_)
   ·replace h:=ite_t e h
    clear e
    try cbv
    exact join_next (m1,true) [0,2,3,4,5] [.loc 0] 224 ⟨by omega,h⟩ (by cbv)
   replace h:=ite_f e h
   clear e
   try cbv
   exact join_next (m1,false) [0,2,3,4,5] [.loc 0] 224 ⟨by omega,h⟩ (by cbv)
  clear h
  rintro⟨m2,b3⟩ ⟨hm2,h⟩
  try cbv
  replace hm2:m2<=m1:=hm2
  obtain _ | m2:=m2
  ·replace h:L95_2 0 z1 b3=some (r1,r2,r3,r4):=h
   rw[L95_2]at h
   cases h
  replace h:L95_2 (m2+1) z1 b3=some (r1,r2,r3,r4):=h
  rw[L95_2]at h
  try cbv
  cases b3
  ·replace h:=itF h
   try cbv
   refine splitI (fun e=>?_) (fun e=>?_)
   ·replace h:=ite_t e h
    clear e
    try cbv
    exact join_next (m2,true) [0,2,3,4,5] [.loc 0] 288 ⟨by omega,h⟩ (by cbv)
   replace h:=ite_f e h
   clear e
   try cbv
   exact join_next (m2,false) [0,2,3,4,5] [.loc 0] 288 ⟨by omega,h⟩ (by cbv)
  replace h:=itT h
  try cbv
  exact join_next (m2,true) [0,2,3,4,5] [.loc 0] 288 ⟨by omega,h⟩ (by cbv)
 clear h
 rintro⟨m3,b4⟩ ⟨hm3,h⟩
 try cbv
 replace hm3:m3<=n:=hm3
 obtain _ | m3:=m3
 ·replace h:L95_3 0 z1 b4=some (r1,r2,r3,r4):=h
  rw[L95_3]at h
  cases h
 replace h:L95_3 (m3+1) z1 b4=some (r1,r2,r3,r4):=h
 rw[L95_3]at h
 try cbv
 cases b4
 rotate_left
 ·replace h:=itT h
  try cbv
  refine seq_go ?_
  try cbv
  obtain⟨rfl,rfl,rfl,rfl⟩:=inj4 h
  refine fin_go ?_
  try cbv
  exact⟨[],by trivial⟩
 replace h:=itF h
 try cbv
 refine seq_joinB 10 [0,2,3,4,10] [.loc 0] 736 (fun m b=>m<=m3/\L95_10 m z1 b=some (r1,r2,r3,r4)) ?_ ?_
 ·try cbv
  refine seq_joinB 10 [0,2,3,4,10] [.loc 0] 352 (fun m b=>m<=m3/\L95_4 m z1 b=some (r1,r2,r3,r4)) ?_ ?_
  ·try cbv
   refine splitI (fun e=>?_) (fun e=>?_)
   ·replace h:=ite_t e h
    clear e
    try cbv
    exact join_next (m3,true) [0,2,3,4,10] [.loc 0] 352 ⟨by omega,h⟩ (by cbv)
   replace h:=ite_f e h
   clear e
   try cbv
   exact join_next (m3,false) [0,2,3,4,10] [.loc 0] 352 ⟨by omega,h⟩ (by cbv)
  clear h
  rintro⟨m4,b5⟩ ⟨hm4,h⟩
  try cbv
  replace hm4:m4<=m3:=hm4
  obtain _ | m4:=m4
  ·replace h:L95_4 0 z1 b5=some (r1,r2,r3,r4):=h
   rw[L95_4]at h
   cases h
  replace h:L95_4 (m4+1) z1 b5=some (r1,r2,r3,r4):=h
  rw[L95_4]at h
  try cbv
  cases b5
  rotate_left
  ·replace h:=itT h
   try cbv
   exact join_next (m4,true) [0,2,3,4,10] [.loc 0] 736 ⟨by omega,h⟩ (by cbv)
  replace h:=itF h
  try cbv
  refine seq_joinB 10 [0,2,3,4,10] [.loc 0] 416 (fun m b=>m<=m4/\L95_5 m z1 b=some (r1,r2,r3,r4)) ?_ ?_
  ·try cbv
   refine splitI (fun e=>?_) (fun e=>?_)
   ·replace h:=ite_t e h
    clear e
    try cbv
    exact join_next (m4,true) [0,2,3,4,10] [.loc 0] 416 ⟨by omega,h⟩ (by cbv)
   replace h:=ite_f e h
   clear e
   try cbv
   exact join_next (m4,false) [0,2,3,4,10] [.loc 0] 416 ⟨by omega,h⟩ (by cbv)
  clear h
  rintro⟨m5,b6⟩ ⟨hm5,h⟩
  try cbv
  replace hm5:m5<=m4:=hm5
  obtain _ | m5:=m5
  ·replace h:L95_5 0 z1 b6=some (r1,r2,r3,r4):=h
   rw[L95_5]at h
   cases h
  replace h:L95_5 (m5+1) z1 b6=some (r1,r2,r3,r4):=h
  rw[L95_5]at h
  try cbv
  cases b6
  rotate_left
  ·replace h:=itT h
   try cbv
   exact join_next (m5,true) [0,2,3,4,10] [.loc 0] 736 ⟨by omega,h⟩ (by cbv)
  replace h:=itF h
  try cbv
  refine seq_joinB 10 [0,2,3,4,10] [.loc 0] 480 (fun m b=>m<=m5/\L95_6 m z1 b=some (r1,r2,r3,r4)) ?_ ?_
  ·try cbv
   refine splitI (fun e=>?_) (fun e=>?_)
   ·replace h:=ite_t e h
    clear e
    try cbv
    exact join_next (m5,true) [0,2,3,4,10] [.loc 0] 480 ⟨by omega,h⟩ (by cbv)
   replace h:=ite_f e h
   clear e
   try cbv
   exact join_next (m5,false) [0,2,3,4,10] [.loc 0] 480 ⟨by omega,h⟩ (by cbv)
  clear h
  rintro⟨m6,b7⟩ ⟨hm6,h⟩
  try cbv
  replace hm6:m6<=m5:=hm6
  obtain _ | m6:=m6
  ·replace h:L95_6 0 z1 b7=some (r1,r2,r3,r4):=h
   rw[L95_6]at h
   cases h
  replace h:L95_6 (m6+1) z1 b7=some (r1,r2,r3,r4):=h
  rw[L95_6]at h
  try cbv
  cases b7
  rotate_left
  ·replace h:=itT h
   try cbv
   exact join_next (m6,true) [0,2,3,4,10] [.loc 0] 736 ⟨by omega,h⟩ (by cbv)
  replace h:=itF h
  try cbv
  refine seq_joinB 10 [0,2,3,4,10] [.loc 0] 544 (fun m b=>m<=m6/\L95_7 m z1 b=some (r1,r2,r3,r4)) ?_ ?_
  ·try cbv
   refine splitI (fun e=>?_) (fun e=>?_)
   ·replace h:=ite_t e h
    clear e
    try cbv
    exact join_next (m6,true) [0,2,3,4,10] [.loc 0] 544 ⟨by omega,h⟩ (by cbv)
   replace h:=ite_f e h
   clear e
   try cbv
   exact join_next (m6,false) [0,2,3,4,10] [.loc 0] 544 ⟨by omega,h⟩ (by cbv)
  clear h
  rintro⟨m7,b8⟩ ⟨hm7,h⟩
  try cbv
  replace hm7:m7<=m6:=hm7
  obtain _ | m7:=m7
  ·replace h:L95_7 0 z1 b8=some (r1,r2,r3,r4):=h
   rw[L95_7]at h
   cases h
  replace h:L95_7 (m7+1) z1 b8=some (r1,r2,r3,r4):=h
  rw[L95_7]at h
  try cbv
  cases b8
  rotate_left
  ·replace h:=itT h
   try cbv
   exact join_next (m7,true) [0,2,3,4,10] [.loc 0] 736 ⟨by omega,h⟩ (by cbv)
  replace h:=itF h
  try cbv
  refine seq_joinB 10 [0,2,3,4,10] [.loc 0] 608 (fun m b=>m<=m7/\L95_8 m z1 b=some (r1,r2,r3,r4)) ?_ ?_
  ·try cbv
   refine splitI (fun e=>?_) (fun e=>?_)
   ·replace h:=ite_t e h
    clear e
    try cbv
    exact join_next (m7,true) [0,2,3,4,10] [.loc 0] 608 ⟨by omega,h⟩ (by cbv)
   replace h:=ite_f e h
   clear e
   try cbv
   exact join_next (m7,false) [0,2,3,4,10] [.loc 0] 608 ⟨by omega,h⟩ (by cbv)
  clear h
  rintro⟨m8,b9⟩ ⟨hm8,h⟩
  try cbv
  replace hm8:m8<=m7:=hm8
  obtain _ | m8:=m8
  ·replace h:L95_8 0 z1 b9=some (r1,r2,r3,r4):=h
   rw[L95_8]at h
   cases h
  replace h:L95_8 (m8+1) z1 b9=some (r1,r2,r3,r4):=h
  rw[L95_8]at h
  try cbv
  cases b9
  rotate_left
  ·replace h:=itT h
   try cbv
   exact join_next (m8,true) [0,2,3,4,10] [.loc 0] 736 ⟨by omega,h⟩ (by cbv)
  replace h:=itF h
  try cbv
  refine seq_joinB 10 [0,2,3,4,10] [.loc 0] 672 (fun m b=>m<=m8/\L95_9 m z1 b=some (r1,r2,r3,r4)) ?_ ?_
  ·try cbv
   refine splitI (fun e=>?_) (fun e=>?_)
   ·replace h:=ite_t e h
    clear e
    try cbv
    exact join_next (m8,true) [0,2,3,4,10] [.loc 0] 672 ⟨by omega,h⟩ (by cbv)
   replace h:=ite_f e h
   clear e
   try cbv
   exact join_next (m8,false) [0,2,3,4,10] [.loc 0] 672 ⟨by omega,h⟩ (by cbv)
  clear h
  rintro⟨m9,b10⟩ ⟨hm9,h⟩
  try cbv
  replace hm9:m9<=m8:=hm9
  obtain _ | m9:=m9
  ·replace h:L95_9 0 z1 b10=some (r1,r2,r3,r4):=h
   rw[L95_9]at h
   cases h
  replace h:L95_9 (m9+1) z1 b10=some (r1,r2,r3,r4):=h
  rw[L95_9]at h
  try cbv
  cases b10
  ·replace h:=itF h
   try cbv
   refine splitI (fun e=>?_) (fun e=>?_)
   ·replace h:=ite_t e h
    clear e
    try cbv
    exact join_next (m9,true) [0,2,3,4,10] [.loc 0] 736 ⟨by omega,h⟩ (by cbv)
   replace h:=ite_f e h
   clear e
   try cbv
   exact join_next (m9,false) [0,2,3,4,10] [.loc 0] 736 ⟨by omega,h⟩ (by cbv)
  replace h:=itT h
  try cbv
  exact join_next (m9,true) [0,2,3,4,10] [.loc 0] 736 ⟨by omega,h⟩ (by cbv)
 clear h
 rintro⟨m10,b11⟩ ⟨hm10,h⟩
 try cbv
 replace hm10:m10<=m3:=hm10
 obtain _ | m10:=m10
 ·replace h:L95_10 0 z1 b11=some (r1,r2,r3,r4):=h
  rw[L95_10]at h
  cases h
 replace h:L95_10 (m10+1) z1 b11=some (r1,r2,r3,r4):=h
 rw[L95_10]at h
 try cbv
 cases b11
 rotate_left
 ·replace h:=itT h
  try cbv
  refine seq_go ?_
  try cbv
  obtain⟨rfl,rfl,rfl,rfl⟩:=inj4 h
  refine fin_go ?_
  try cbv
  exact⟨[],by trivial⟩
 replace h:=itF h
 try cbv
 refine seq_joinB 19 [0,2,3,4,19] [.loc 0] 992 (fun m b=>m<=m10/\L95_14 m z1 b=some (r1,r2,r3,r4)) ?_ ?_
 ·try cbv
  refine seq_joinB 19 [0,2,3,4,19] [.loc 0] 800 (fun m b=>m<=m10/\L95_11 m z1 b=some (r1,r2,r3,r4)) ?_ ?_
  ·try cbv
   refine splitI (fun e=>?_) (fun e=>?_)
   ·replace h:=ite_t e h
    clear e
    try cbv
    exact join_next (m10,true) [0,2,3,4,19] [.loc 0] 800 ⟨by omega,h⟩ (by cbv)
   replace h:=ite_f e h
   clear e
   try cbv
   exact join_next (m10,false) [0,2,3,4,19] [.loc 0] 800 ⟨by omega,h⟩ (by cbv)
  clear h
  rintro⟨m11,b12⟩ ⟨hm11,h⟩
  try cbv
  replace hm11:m11<=m10:=hm11
  obtain _ | m11:=m11
  ·replace h:L95_11 0 z1 b12=some (r1,r2,r3,r4):=h
   rw[L95_11]at h
   cases h
  replace h:L95_11 (m11+1) z1 b12=some (r1,r2,r3,r4):=h
  rw[L95_11]at h
  try cbv
  cases b12
  rotate_left
  ·replace h:=itT h
   try cbv
   exact join_next (m11,true) [0,2,3,4,19] [.loc 0] 992 ⟨by omega,h⟩ (by cbv)
  replace h:=itF h
  try cbv
  refine seq_joinB 19 [0,2,3,4,19] [.loc 0] 864 (fun m b=>m<=m11/\L95_12 m z1 b=some (r1,r2,r3,r4)) ?_ ?_
  ·try cbv
   refine splitI (fun e=>?_) (fun e=>?_)
   ·replace h:=ite_t e h
    clear e
    try cbv
    exact join_next (m11,true) [0,2,3,4,19] [.loc 0] 864 ⟨by omega,h⟩ (by cbv)
   replace h:=ite_f e h
   clear e
   try cbv
   exact join_next (m11,false) [0,2,3,4,19] [.loc 0] 864 ⟨by omega,h⟩ (by cbv)
  clear h
  rintro⟨m12,b13⟩ ⟨hm12,h⟩
  try cbv
  replace hm12:m12<=m11:=hm12
  obtain _ | m12:=m12
  ·replace h:L95_12 0 z1 b13=some (r1,r2,r3,r4):=h
   rw[L95_12]at h
   cases h
  replace h:L95_12 (m12+1) z1 b13=some (r1,r2,r3,r4):=h
  rw[L95_12]at h
  try cbv
  cases b13
  rotate_left
  ·replace h:=itT h
   try cbv
   exact join_next (m12,true) [0,2,3,4,19] [.loc 0] 992 ⟨by omega,h⟩ (by cbv)
  replace h:=itF h
  try cbv
  refine seq_joinB 19 [0,2,3,4,19] [.loc 0] 928 (fun m b=>m<=m12/\L95_13 m z1 b=some (r1,r2,r3,r4)) ?_ ?_
  ·try cbv
   refine splitI (fun e=>?_) (fun e=>?_)
   ·replace h:=ite_t e h
    clear e
    try cbv
    exact join_next (m12,true) [0,2,3,4,19] [.loc 0] 928 ⟨by omega,h⟩ (by cbv)
   replace h:=ite_f e h
   clear e
   try cbv
   exact join_next (m12,false) [0,2,3,4,19] [.loc 0] 928 ⟨by omega,h⟩ (by cbv)
  clear h
  rintro⟨m13,b14⟩ ⟨hm13,h⟩
  try cbv
  replace hm13:m13<=m12:=hm13
  obtain _ | m13:=m13
  ·replace h:L95_13 0 z1 b14=some (r1,r2,r3,r4):=h
   rw[L95_13]at h
   cases h
  replace h:L95_13 (m13+1) z1 b14=some (r1,r2,r3,r4):=h
  rw[L95_13]at h
  try cbv
  cases b14
  ·replace h:=itF h
   try cbv
   refine splitI (fun e=>?_) (fun e=>?_)
   ·replace h:=ite_t e h
    clear e
    try cbv
    exact join_next (m13,true) [0,2,3,4,19] [.loc 0] 992 ⟨by omega,h⟩ (by cbv)
   replace h:=ite_f e h
   clear e
   try cbv
   exact join_next (m13,false) [0,2,3,4,19] [.loc 0] 992 ⟨by omega,h⟩ (by cbv)
  replace h:=itT h
  try cbv
  exact join_next (m13,true) [0,2,3,4,19] [.loc 0] 992 ⟨by omega,h⟩ (by cbv)
 clear h
 rintro⟨m14,b15⟩ ⟨hm14,h⟩
 try cbv
 replace hm14:m14<=m10:=hm14
 obtain _ | m14:=m14
 ·replace h:L95_14 0 z1 b15=some (r1,r2,r3,r4):=h
  rw[L95_14]at h
  cases h
 replace h:L95_14 (m14+1) z1 b15=some (r1,r2,r3,r4):=h
 rw[L95_14]at h
 try cbv
 cases b15
 rotate_left
 ·replace h:=itT h
  try cbv
  refine seq_go ?_
  try cbv
  obtain⟨rfl,rfl,rfl,rfl⟩:=inj4 h
  refine fin_go ?_
  try cbv
  exact⟨[],by trivial⟩
 replace h:=itF h
 try cbv
 refine seq_joinB 25 [0,2,3,4,25] [.loc 0] 1120 (fun m b=>m<=m14/\L95_16 m z1 b=some (r1,r2,r3,r4)) ?_ ?_
 ·try cbv
  refine seq_joinB 25 [0,2,3,4,25] [.loc 0] 1056 (fun m b=>m<=m14/\L95_15 m z1 b=some (r1,r2,r3,r4)) ?_ ?_
  ·try cbv
   refine splitI (fun e=>?_) (fun e=>?_)
   ·replace h:=ite_t e h
    clear e
    try cbv
    exact join_next (m14,true) [0,2,3,4,25] [.loc 0] 1056 ⟨by omega,h⟩ (by cbv)
   replace h:=ite_f e h
   clear e
   try cbv
   exact join_next (m14,false) [0,2,3,4,25] [.loc 0] 1056 ⟨by omega,h⟩ (by cbv)
  clear h
  rintro⟨m15,b16⟩ ⟨hm15,h⟩
  try cbv
  replace hm15:m15<=m14:=hm15
  obtain _ | m15:=m15
  ·replace h:L95_15 0 z1 b16=some (r1,r2,r3,r4):=h
   rw[L95_15]at h
   cases h
  replace h:L95_15 (m15+1) z1 b16=some (r1,r2,r3,r4):=h
  rw[L95_15]at h
  try cbv
  cases b16
  ·replace h:=itF h
   try cbv
   refine splitI (fun e=>?_) (fun e=>?_)
   ·replace h:=ite_t e h
    clear e
    try cbv
    exact join_next (m15,true) [0,2,3,4,25] [.loc 0] 1120 ⟨by omega,h⟩ (by cbv)
   replace h:=ite_f e h
   clear e
   try cbv
   exact join_next (m15,false) [0,2,3,4,25] [.loc 0] 1120 ⟨by omega,h⟩ (by cbv)
  replace h:=itT h
  try cbv
  exact join_next (m15,true) [0,2,3,4,25] [.loc 0] 1120 ⟨by omega,h⟩ (by cbv)
 clear h
 rintro⟨m16,b17⟩ ⟨hm16,h⟩
 try cbv
 replace hm16:m16<=m14:=hm16
 obtain _ | m16:=m16
 ·replace h:L95_16 0 z1 b17=some (r1,r2,r3,r4):=h
  rw[L95_16]at h
  cases h
 replace h:L95_16 (m16+1) z1 b17=some (r1,r2,r3,r4):=h
 rw[L95_16]at h
 try cbv
 cases b17
 rotate_left
 ·replace h:=itT h
  try cbv
  refine seq_go ?_
  try cbv
  obtain⟨rfl,rfl,rfl,rfl⟩:=inj4 h
  refine fin_go ?_
  try cbv
  exact⟨[],by trivial⟩
 replace h:=itF h
 try cbv
 refine seq_joinB 29 [0,2,3,4,29] [.loc 0] 1184 (fun m b=>m<=m16/\L95_17 m z1 b=some (r1,r2,r3,r4)) ?_ ?_
 ·try cbv
  refine splitI (fun e=>?_) (fun e=>?_)
  ·replace h:=ite_t e h
   clear e
   try cbv
   exact join_next (m16,true) [0,2,3,4,29] [.loc 0] 1184 ⟨by omega,h⟩ (by cbv)
  replace h:=ite_f e h
  clear e
  try cbv
  exact join_next (m16,false) [0,2,3,4,29] [.loc 0] 1184 ⟨by omega,h⟩ (by cbv)
 clear h
 rintro⟨m17,b18⟩ ⟨hm17,h⟩
 try cbv
 replace hm17:m17<=m16:=hm17
 obtain _ | m17:=m17
 ·replace h:L95_17 0 z1 b18=some (r1,r2,r3,r4):=h
  rw[L95_17]at h
  cases h
 replace h:L95_17 (m17+1) z1 b18=some (r1,r2,r3,r4):=h
 rw[L95_17]at h
 try cbv
 cases b18
 rotate_left
 ·replace h:=itT h
  try cbv
  refine seq_go ?_
  try cbv
  obtain⟨rfl,rfl,rfl,rfl⟩:=inj4 h
  refine fin_go ?_
  try cbv
  exact⟨[],by trivial⟩
 replace h:=itF h
 try cbv
 refine seq_joinB 32 [0,2,3,32] [.loc 0] 1760 (fun m b=>m<=m17/\L95_26 m z1 b=some (r1,r2,r3,r4)) ?_ ?_
 rotate_left
 ·clear h
  rintro⟨m26,b27⟩ ⟨hm26,h⟩
  try cbv
  replace hm26:m26<=m17:=hm26
  obtain _ | m26:=m26
  ·replace h:L95_26 0 z1 b27=some (r1,r2,r3,r4):=h
   rw[L95_26]at h
   cases h
  replace h:L95_26 (m26+1) z1 b27=some (r1,r2,r3,r4):=h
  rw[L95_26]at h
  try cbv
  cases b27
  rotate_left
  ·replace h:=itT h
   try cbv
   refine seq_go ?_
   try cbv
   obtain⟨rfl,rfl,rfl,rfl⟩:=inj4 h
   refine fin_go ?_
   try cbv
   exact⟨[],by trivial⟩
  replace h:=itF h
  try cbv
  refine seq_go ?_
  try cbv
  refine splitLe (fun e=>?_) (fun e=>?_)
  ·replace h:=ite_t e h
   clear e
   try cbv
   refine splitLe (fun e=>?_) (fun e=>?_)
   ·replace h:=ite_t e h
    clear e
    try cbv
    obtain⟨rfl,rfl,rfl,rfl⟩:=inj4 h
    refine fin_go ?_
    try cbv
    exact⟨[],by trivial⟩
   replace h:=ite_f (Int.not_le.2 e) h
   clear e
   try cbv
   obtain⟨rfl,rfl,rfl,rfl⟩:=inj4 h
   refine fin_go ?_
   try cbv
   exact⟨[],by trivial⟩
  replace h:=ite_f (Int.not_le.2 e) h
  clear e
  try cbv
  obtain⟨rfl,rfl,rfl,rfl⟩:=inj4 h
  refine fin_go ?_
  try cbv
  exact⟨[],by trivial⟩
 try cbv
 refine seq_joinB 32 [0,2,3,4,32] [.loc 0] 1248 (fun m b=>m<=m17/\L95_18 m z1 b=some (r1,r2,r3,r4)) ?_ ?_
 ·try cbv
  refine splitI (fun e=>?_) (fun e=>?_)
  ·replace h:=ite_t e h
   clear e
   try cbv
   exact join_next (m17,true) [0,2,3,4,32] [.loc 0] 1248 ⟨by omega,h⟩ (by cbv)
  replace h:=ite_f e h
  clear e
  try cbv
  exact join_next (m17,false) [0,2,3,4,32] [.loc 0] 1248 ⟨by omega,h⟩ (by cbv)
 clear h
 rintro⟨m18,b19⟩ ⟨hm18,h⟩
 try cbv
 replace hm18:m18<=m17:=hm18
 obtain _ | m18:=m18
 ·replace h:L95_18 0 z1 b19=some (r1,r2,r3,r4):=h
  rw[L95_18]at h
  cases h
 replace h:L95_18 (m18+1) z1 b19=some (r1,r2,r3,r4):=h
 rw[L95_18]at h
 try cbv
 cases b19
 rotate_left
 ·replace h:=itT h
  try cbv
  exact join_next (m18,true) [0,2,3,32] [.loc 0] 1760 ⟨by omega,h⟩ (by cbv)
 replace h:=itF h
 try cbv
 refine seq_joinB 32 [0,2,3,4,32] [.loc 0] 1312 (fun m b=>m<=m18/\L95_19 m z1 b=some (r1,r2,r3,r4)) ?_ ?_
 ·try cbv
  refine splitI (fun e=>?_) (fun e=>?_)
  ·replace h:=ite_t e h
   clear e
   try cbv
   exact join_next (m18,true) [0,2,3,4,32] [.loc 0] 1312 ⟨by omega,h⟩ (by cbv)
  replace h:=ite_f e h
  clear e
  try cbv
  exact join_next (m18,false) [0,2,3,4,32] [.loc 0] 1312 ⟨by omega,h⟩ (by cbv)
 clear h
 rintro⟨m19,b20⟩ ⟨hm19,h⟩
 try cbv
 replace hm19:m19<=m18:=hm19
 obtain _ | m19:=m19
 ·replace h:L95_19 0 z1 b20=some (r1,r2,r3,r4):=h
  rw[L95_19]at h
  cases h
 replace h:L95_19 (m19+1) z1 b20=some (r1,r2,r3,r4):=h
 rw[L95_19]at h
 try cbv
 cases b20
 rotate_left
 ·replace h:=itT h
  try cbv
  exact join_next (m19,true) [0,2,3,32] [.loc 0] 1760 ⟨by omega,h⟩ (by cbv)
 replace h:=itF h
 try cbv
 refine seq_joinB 32 [0,2,3,4,32] [.loc 0] 1376 (fun m b=>m<=m19/\L95_20 m z1 b=some (r1,r2,r3,r4)) ?_ ?_
 ·try cbv
  refine splitI (fun e=>?_) (fun e=>?_)
  ·replace h:=ite_t e h
   clear e
   try cbv
   exact join_next (m19,true) [0,2,3,4,32] [.loc 0] 1376 ⟨by omega,h⟩ (by cbv)
  replace h:=ite_f e h
  clear e
  try cbv
  exact join_next (m19,false) [0,2,3,4,32] [.loc 0] 1376 ⟨by omega,h⟩ (by cbv)
 clear h
 rintro⟨m20,b21⟩ ⟨hm20,h⟩
 try cbv
 replace hm20:m20<=m19:=hm20
 obtain _ | m20:=m20
 ·replace h:L95_20 0 z1 b21=some (r1,r2,r3,r4):=h
  rw[L95_20]at h
  cases h
 replace h:L95_20 (m20+1) z1 b21=some (r1,r2,r3,r4):=h
 rw[L95_20]at h
 try cbv
 cases b21
 rotate_left
 ·replace h:=itT h
  try cbv
  exact join_next (m20,true) [0,2,3,32] [.loc 0] 1760 ⟨by omega,h⟩ (by cbv)
 replace h:=itF h
 try cbv
 refine seq_joinB 32 [0,2,3,4,32] [.loc 0] 1440 (fun m b=>m<=m20/\L95_21 m z1 b=some (r1,r2,r3,r4)) ?_ ?_
 ·try cbv
  refine splitI (fun e=>?_) (fun e=>?_)
  ·replace h:=ite_t e h
   clear e
   try cbv
   exact join_next (m20,true) [0,2,3,4,32] [.loc 0] 1440 ⟨by omega,h⟩ (by cbv)
  replace h:=ite_f e h
  clear e
  try cbv
  exact join_next (m20,false) [0,2,3,4,32] [.loc 0] 1440 ⟨by omega,h⟩ (by cbv)
 clear h
 rintro⟨m21,b22⟩ ⟨hm21,h⟩
 try cbv
 replace hm21:m21<=m20:=hm21
 obtain _ | m21:=m21
 ·replace h:L95_21 0 z1 b22=some (r1,r2,r3,r4):=h
  rw[L95_21]at h
  cases h
 replace h:L95_21 (m21+1) z1 b22=some (r1,r2,r3,r4):=h
 rw[L95_21]at h
 try cbv
 cases b22
 rotate_left
 ·replace h:=itT h
  try cbv
  exact join_next (m21,true) [0,2,3,32] [.loc 0] 1760 ⟨by omega,h⟩ (by cbv)
 replace h:=itF h
 try cbv
 refine seq_joinB 32 [0,2,3,4,32] [.loc 0] 1504 (fun m b=>m<=m21/\L95_22 m z1 b=some (r1,r2,r3,r4)) ?_ ?_
 ·try cbv
  refine splitI (fun e=>?_) (fun e=>?_)
  ·replace h:=ite_t e h
   clear e
   try cbv
   exact join_next (m21,true) [0,2,3,4,32] [.loc 0] 1504 ⟨by omega,h⟩ (by cbv)
  replace h:=ite_f e h
  clear e
  try cbv
  exact join_next (m21,false) [0,2,3,4,32] [.loc 0] 1504 ⟨by omega,h⟩ (by cbv)
 clear h
 rintro⟨m22,b23⟩ ⟨hm22,h⟩
 try cbv
 replace hm22:m22<=m21:=hm22
 obtain _ | m22:=m22
 ·replace h:L95_22 0 z1 b23=some (r1,r2,r3,r4):=h
  rw[L95_22]at h
  cases h
 replace h:L95_22 (m22+1) z1 b23=some (r1,r2,r3,r4):=h
 rw[L95_22]at h
 try cbv
 cases b23
 rotate_left
 ·replace h:=itT h
  try cbv
  exact join_next (m22,true) [0,2,3,32] [.loc 0] 1760 ⟨by omega,h⟩ (by cbv)
 replace h:=itF h
 try cbv
 refine seq_joinB 32 [0,2,3,4,32] [.loc 0] 1568 (fun m b=>m<=m22/\L95_23 m z1 b=some (r1,r2,r3,r4)) ?_ ?_
 ·try cbv
  refine splitI (fun e=>?_) (fun e=>?_)
  ·replace h:=ite_t e h
   clear e
   try cbv
   exact join_next (m22,true) [0,2,3,4,32] [.loc 0] 1568 ⟨by omega,h⟩ (by cbv)
  replace h:=ite_f e h
  clear e
  try cbv
  exact join_next (m22,false) [0,2,3,4,32] [.loc 0] 1568 ⟨by omega,h⟩ (by cbv)
 clear h
 rintro⟨m23,b24⟩ ⟨hm23,h⟩
 try cbv
 replace hm23:m23<=m22:=hm23
 obtain _ | m23:=m23
 ·replace h:L95_23 0 z1 b24=some (r1,r2,r3,r4):=h
  rw[L95_23]at h
  cases h
 replace h:L95_23 (m23+1) z1 b24=some (r1,r2,r3,r4):=h
 rw[L95_23]at h
 try cbv
 cases b24
 rotate_left
 ·replace h:=itT h
  try cbv
  exact join_next (m23,true) [0,2,3,32] [.loc 0] 1760 ⟨by omega,h⟩ (by cbv)
 replace h:=itF h
 try cbv
 refine seq_joinB 32 [0,2,3,4,32] [.loc 0] 1632 (fun m b=>m<=m23/\L95_24 m z1 b=some (r1,r2,r3,r4)) ?_ ?_
 ·try cbv
  refine splitI (fun e=>?_) (fun e=>?_)
  ·replace h:=ite_t e h
   clear e
   try cbv
   exact join_next (m23,true) [0,2,3,4,32] [.loc 0] 1632 ⟨by omega,h⟩ (by cbv)
  replace h:=ite_f e h
  clear e
  try cbv
  exact join_next (m23,false) [0,2,3,4,32] [.loc 0] 1632 ⟨by omega,h⟩ (by cbv)
 clear h
 rintro⟨m24,b25⟩ ⟨hm24,h⟩
 try cbv
 replace hm24:m24<=m23:=hm24
 obtain _ | m24:=m24
 ·replace h:L95_24 0 z1 b25=some (r1,r2,r3,r4):=h
  rw[L95_24]at h
  cases h
 replace h:L95_24 (m24+1) z1 b25=some (r1,r2,r3,r4):=h
 rw[L95_24]at h
 try cbv
 cases b25
 rotate_left
 ·replace h:=itT h
  try cbv
  exact join_next (m24,true) [0,2,3,32] [.loc 0] 1760 ⟨by omega,h⟩ (by cbv)
 replace h:=itF h
 try cbv
 refine seq_joinB 32 [0,2,3,4,32] [.loc 0] 1696 (fun m b=>m<=m24/\L95_25 m z1 b=some (r1,r2,r3,r4)) ?_ ?_
 ·try cbv
  refine splitI (fun e=>?_) (fun e=>?_)
  ·replace h:=ite_t e h
   clear e
   try cbv
   exact join_next (m24,true) [0,2,3,4,32] [.loc 0] 1696 ⟨by omega,h⟩ (by cbv)
  replace h:=ite_f e h
  clear e
  try cbv
  exact join_next (m24,false) [0,2,3,4,32] [.loc 0] 1696 ⟨by omega,h⟩ (by cbv)
 clear h
 rintro⟨m25,b26⟩ ⟨hm25,h⟩
 try cbv
 replace hm25:m25<=m24:=hm25
 obtain _ | m25:=m25
 ·replace h:L95_25 0 z1 b26=some (r1,r2,r3,r4):=h
  rw[L95_25]at h
  cases h
 replace h:L95_25 (m25+1) z1 b26=some (r1,r2,r3,r4):=h
 rw[L95_25]at h
 try cbv
 cases b26
 ·replace h:=itF h
  try cbv
  refine splitI (fun e=>?_) (fun e=>?_)
  ·replace h:=ite_t e h
   clear e
   try cbv
   exact join_next (m25,true) [0,2,3,32] [.loc 0] 1760 ⟨by omega,h⟩ (by cbv)
  replace h:=ite_f e h
  clear e
  try cbv
  exact join_next (m25,false) [0,2,3,32] [.loc 0] 1760 ⟨by omega,h⟩ (by cbv)
 replace h:=itT h
 try cbv
 exact join_next (m25,true) [0,2,3,32] [.loc 0] 1760 ⟨by omega,h⟩ (by cbv)
def L96_7:Nat->Bool->Bool->Bool->Option (Bool)
 | 0,_,_,_=>none
 | n+1,b21,b22,b23=>
  (if b21=true then (if b22=true then some b23 else some false)else some false)
def L96_6:Nat->BA->BA->Bool->Bool->Bool->Bool->Option (Bool)
 | 0,_,_,_,_,_,_=>none
 | n+1,s3,s4,b9,b10,b11,b18=>
  (if b18=true then bO1 (F73 n s3) fun b19=>bO1 (F73 n s4) fun b20=>L96_7 n b19 b20 b11 else L96_7 n b9 b10 b11)
def L96_5:Nat->Int->BA->BA->Bool->Bool->Bool->Bool->Option (Bool)
 | 0,_,_,_,_,_,_,_=>none
 | n+1,z1,s3,s4,b9,b10,b11,b16=>
  (if b16=true then bO1 (F73 n s3) fun b17=>L96_7 n b17 b10 b11 else (if z1=(20:Int)then L96_6 n s3 s4 b9 b10 b11 true else L96_6 n s3 s4 b9 b10 b11 false))
def L96_4:Nat->Int->BA->BA->Bool->Bool->Bool->Bool->Option (Bool)
 | 0,_,_,_,_,_,_,_=>none
 | n+1,z1,s3,s4,b9,b10,b11,b14=>
  (if b14=true then bO1 (F74 n s3) fun b15=>L96_7 n b15 b10 b11 else (if z1=(19:Int)then L96_5 n z1 s3 s4 b9 b10 b11 true else L96_5 n z1 s3 s4 b9 b10 b11 false))
def L96_3:Nat->Int->Int->BA->BA->Bool->Bool->Bool->Bool->Option (Bool)
 | 0,_,_,_,_,_,_,_,_=>none
 | n+1,z1,z2,s3,s4,b9,b10,b11,b13=>
  (if b13=true then (if z2=(0:Int)then L96_7 n b9 b10 true else (if z2=(1:Int)then L96_7 n b9 b10 true else L96_7 n b9 b10 false))else (if z1=(18:Int)then L96_4 n z1 s3 s4 b9 b10 b11 true else L96_4 n z1 s3 s4 b9 b10 b11 false))
def L96_2:Nat->Int->Int->BA->BA->Bool->Bool->Bool->Bool->Option (Bool)
 | 0,_,_,_,_,_,_,_,_=>none
 | n+1,z1,z2,s3,s4,b9,b10,b11,b12=>
  (if b12=true then (if (0:Int)<=z2 then L96_7 n b9 b10 true else L96_7 n b9 b10 false)else (if z1=(2:Int)then L96_3 n z1 z2 s3 s4 b9 b10 b11 true else L96_3 n z1 z2 s3 s4 b9 b10 b11 false))
def L96_1:Nat->Int->Int->BA->BA->Bool->Bool->Bool->Option (Bool)
 | 0,_,_,_,_,_,_,_=>none
 | n+1,z1,z2,s3,s4,b9,b10,b11=>
  (if z1=(1:Int)then L96_2 n z1 z2 s3 s4 b9 b10 b11 true else L96_2 n z1 z2 s3 s4 b9 b10 b11 false)
def F96 (n:Nat) (z1:Int) (z2:Int) (s3:BA) (s4:BA) (s5:BA) (l6:LD) (l7:LD) (z8:Int):Option (Bool):=
 (if s3=ByteArray.empty then (if s4=ByteArray.empty then (if z2=(0:Int)then L96_1 n z1 z2 s3 s4 true true true else L96_1 n z1 z2 s3 s4 true true false)else (if z2=(0:Int)then L96_1 n z1 z2 s3 s4 true false true else L96_1 n z1 z2 s3 s4 true false false))else (if s4=ByteArray.empty then (if z2=(0:Int)then L96_1 n z1 z2 s3 s4 false true true else L96_1 n z1 z2 s3 s4 false true false)else (if z2=(0:Int)then L96_1 n z1 z2 s3 s4 false false true else L96_1 n z1 z2 s3 s4 false false false)))
theorem T96 (n:Nat):∀⦃z1 z2 s3 s4 s5 l6 l7 z8 r1⦄,F96 n z1 z2 s3 s4 s5 l6 l7 z8=some r1->
    Trip Tryz.prog inv 96 [.d (.agg [.int .u8 z1,.int .i64 z2,.str s3,.str s4,.str s5,.list false 1 l6,.list true 8 l7,.int .i64 z8])] [] (.v (.d (.bool r1))) [] []:=by
 intro z1 z2 s3 s4 s5 l6 l7 z8 r1 h
 unfold F96 at h
 refine Trip.of tab_ok tab_one fol Tryz.func96 rfl (by kernel_rfl) rfl rfl rfl (fun M hM hI=>?_)
 try cbv
 refine seq_go ?_
 try cbv
 refine seq_join (T:=Nat×Bool×Bool×Bool) (fun t=>⟨[sL 1 0,sB 2 false,sB 3 t.2.1,sB 4 t.2.2.1,sB 5 t.2.2.2],[(.loc 0,.cells [.d (.int .u8 z1),.d (.int .i64 z2),.d (.str s3),.d (.str s4),.d (.str s5),.d (.list false 1 l6),.d (.list true 8 l7),.d (.int .i64 z8)])],448⟩) (fun t=>t.1<=n/\L96_1 t.1 z1 z2 s3 s4 t.2.1 t.2.2.1 t.2.2.2=some r1) ?_ ?_
 ·try cbv
  refine splitS (fun e=>?_) (fun e=>?_)
  ·replace h:=ite_t (bytes_eq.1 e) h
   clear e
   try cbv
   refine splitS (fun e=>?_) (fun e=>?_)
   ·replace h:=ite_t (bytes_eq.1 e) h
    clear e
    try cbv
    refine splitI (fun e=>?_) (fun e=>?_)
    ·replace h:=ite_t e h
     clear e
     try cbv
     refine drawn ?_ ?_
     ·show _=true
      kernel_rfl
     try cbv
     exact join_next (n,(true,true,true)) [1,2,3,4,5] [.loc 0] 448 ⟨by omega,h⟩ (by cbv)
    replace h:=ite_f e h
    clear e
    try cbv
    refine drawn ?_ ?_
    ·show _=true
     kernel_rfl
    try cbv
    exact join_next (n,(true,true,false)) [1,2,3,4,5] [.loc 0] 448 ⟨by omega,h⟩ (by cbv)
   replace h:=ite_f (bytes_ne.1 e) h
   clear e
   try cbv
   refine splitI (fun e=>?_) (fun e=>?_)
   ·replace h:=ite_t e h
    clear e
    try cbv
    refine drawn ?_ ?_
    ·show _=true
     kernel_rfl
    try cbv
    exact join_next (n,(true,false,true)) [1,2,3,4,5] [.loc 0] 448 ⟨by omega,h⟩ (by cbv)
   replace h:=ite_f e h
   clear e
   try cbv
   refine drawn ?_ ?_
   ·show _=true
    kernel_rfl
   try cbv
   exact join_next (n,(true,false,false)) [1,2,3,4,5] [.loc 0] 448 ⟨by omega,h⟩ (by cbv)
  replace h:=ite_f (bytes_ne.1 e) h
  clear e
  try cbv
  refine splitS (fun e=>?_) (fun e=>?_)
  ·replace h:=ite_t (bytes_eq.1 e) h
   clear e
   try cbv
   refine splitI (fun e=>?_) (fun e=>?_)
   ·replace h:=ite_t e h
    clear e
    try cbv
    refine drawn ?_ ?_
    ·show _=true
     kernel_rfl
    try cbv
    exact join_next (n,(false,true,true)) [1,2,3,4,5] [.loc 0] 448 ⟨by omega,h⟩ (by cbv)
   replace h:=ite_f e h
   clear e
   try cbv
   refine drawn ?_ ?_
   ·show _=true
    kernel_rfl
   try cbv
   exact join_next (n,(false,true,false)) [1,2,3,4,5] [.loc 0] 448 ⟨by omega,h⟩ (by cbv)
  replace h:=ite_f (bytes_ne.1 e) h
  clear e
  try cbv
  refine splitI (fun e=>?_) (fun e=>?_)
  ·replace h:=ite_t e h
   clear e
   try cbv
   refine drawn ?_ ?_
   ·show _=true
    kernel_rfl
   try cbv
   exact join_next (n,(false,false,true)) [1,2,3,4,5] [.loc 0] 448 ⟨by omega,h⟩ (by cbv)
  replace h:=ite_f e h
  clear e
  try cbv
  refine drawn ?_ ?_
  ·show _=true
   kernel_rfl
  try cbv
  exact join_next (n,(false,false,false)) [1,2,3,4,5] [.loc 0] 448 ⟨by omega,h⟩ (by cbv)
 clear h
 rintro⟨m1,b9,b10,b11⟩ ⟨hm1,h⟩
 replace hm1:m1<=n:=hm1
 obtain _ | m1:=m1
 ·replace h:L96_1 0 z1 z2 s3 s4 b9 b10 b11=some r1:=h
  rw[L96_1]at h
  cases h
 replace h:L96_1 (m1+1) z1 z2 s3 s4 b9 b10 b11=some r1:=h
 rw[L96_1]at h
 try cbv
 refine seq_join (T:=Nat×Bool×Bool×Bool) (fun t=>⟨[sB 2 false,sB 3 t.2.1,sB 4 t.2.2.1,sB 5 t.2.2.2],[],1088⟩) (fun t=>t.1<=m1/\L96_7 t.1 t.2.1 t.2.2.1 t.2.2.2=some r1) ?_ ?_
 rotate_left
 ·clear h
  rintro⟨m7,b21,b22,b23⟩ ⟨hm7,h⟩
  replace hm7:m7<=m1:=hm7
  obtain _ | m7:=m7
  ·replace h:L96_7 0 b21 b22 b23=some r1:=h
   rw[L96_7]at h
   cases h
  replace h:L96_7 (m7+1) b21 b22 b23=some r1:=h
  rw[L96_7]at h
  try cbv
  refine seq_go ?_
  try cbv
  cases b21
  ·replace h:=itF h
   try cbv
   obtain rfl:=Option.some.inj h
   refine fin_go ?_
   try cbv
   exact⟨[],by trivial⟩
  replace h:=itT h
  try cbv
  cases b22
  ·replace h:=itF h
   try cbv
   obtain rfl:=Option.some.inj h
   refine fin_go ?_
   try cbv
   exact⟨[],by trivial⟩
  replace h:=itT h
  try cbv
  obtain rfl:=Option.some.inj h
  refine fin_go ?_
  try cbv
  exact⟨[],by trivial⟩
 try cbv
 refine seq_go ?_
 try cbv
 refine seq_joinB 17 [1,2,3,4,5,16,17] [.loc 0] 576 (fun m b=>m<=m1/\L96_2 m z1 z2 s3 s4 b9 b10 b11 b=some r1) ?_ ?_
 ·try cbv
  refine splitI (fun e=>?_) (fun e=>?_)
  ·replace h:=ite_t e h
   clear e
   try cbv
   exact join_next (m1,true) [1,2,3,4,5,16,17] [.loc 0] 576 ⟨by omega,h⟩ (by cbv)
  replace h:=ite_f e h
  clear e
  try cbv
  exact join_next (m1,false) [1,2,3,4,5,16,17] [.loc 0] 576 ⟨by omega,h⟩ (by cbv)
 clear h
 rintro⟨m2,b12⟩ ⟨hm2,h⟩
 try cbv
 replace hm2:m2<=m1:=hm2
 obtain _ | m2:=m2
 ·replace h:L96_2 0 z1 z2 s3 s4 b9 b10 b11 b12=some r1:=h
  rw[L96_2]at h
  cases h
 replace h:L96_2 (m2+1) z1 z2 s3 s4 b9 b10 b11 b12=some r1:=h
 rw[L96_2]at h
 try cbv
 cases b12
 rotate_left
 ·replace h:=itT h
  try cbv
  refine splitLe (fun e=>?_) (fun e=>?_)
  ·replace h:=ite_t e h
   clear e
   try cbv
   exact join_next (m2,(b9,b10,true)) [2,3,4,5] [] 1088 ⟨by omega,h⟩ (by cbv)
  replace h:=ite_f (Int.not_le.2 e) h
  clear e
  try cbv
  exact join_next (m2,(b9,b10,false)) [2,3,4,5] [] 1088 ⟨by omega,h⟩ (by cbv)
 replace h:=itF h
 try cbv
 refine seq_joinB 22 [1,2,3,4,5,16,22] [.loc 0] 640 (fun m b=>m<=m2/\L96_3 m z1 z2 s3 s4 b9 b10 b11 b=some r1) ?_ ?_
 ·try cbv
  refine splitI (fun e=>?_) (fun e=>?_)
  ·replace h:=ite_t e h
   clear e
   try cbv
   exact join_next (m2,true) [1,2,3,4,5,16,22] [.loc 0] 640 ⟨by omega,h⟩ (by cbv)
  replace h:=ite_f e h
  clear e
  try cbv
  exact join_next (m2,false) [1,2,3,4,5,16,22] [.loc 0] 640 ⟨by omega,h⟩ (by cbv)
 clear h
 rintro⟨m3,b13⟩ ⟨hm3,h⟩
 try cbv
 replace hm3:m3<=m2:=hm3
 obtain _ | m3:=m3
 ·replace h:L96_3 0 z1 z2 s3 s4 b9 b10 b11 b13=some r1:=h
  rw[L96_3]at h
  cases h
 replace h:L96_3 (m3+1) z1 z2 s3 s4 b9 b10 b11 b13=some r1:=h
 rw[L96_3]at h
 try cbv
 cases b13
 rotate_left
 ·replace h:=itT h
  try cbv
  refine splitI (fun e=>?_) (fun e=>?_)
  ·replace h:=ite_t e h
   clear e
   try cbv
   exact join_next (m3,(b9,b10,true)) [2,3,4,5] [] 1088 ⟨by omega,h⟩ (by cbv)
  replace h:=ite_f e h
  clear e
  try cbv
  refine splitI (fun e=>?_) (fun e=>?_)
  ·replace h:=ite_t e h
   clear e
   try cbv
   exact join_next (m3,(b9,b10,true)) [2,3,4,5] [] 1088 ⟨by omega,h⟩ (by cbv)
  replace h:=ite_f e h
  clear e
  try cbv
  exact join_next (m3,(b9,b10,false)) [2,3,4,5] [] 1088 ⟨by omega,h⟩ (by cbv)
 replace h:=itF h
 try cbv
 refine seq_joinB 32 [1,2,3,4,5,16,32] [.loc 0] 704 (fun m b=>m<=m3/\L96_4 m z1 s3 s4 b9 b10 b11 b=some r1) ?_ ?_
 ·try cbv
  refine splitI (fun e=>?_) (fun e=>?_)
  ·replace h:=ite_t e h
   clear e
   try cbv
   exact join_next (m3,true) [1,2,3,4,5,16,32] [.loc 0] 704 ⟨by omega,h⟩ (by cbv)
  replace h:=ite_f e h
  clear e
  try cbv
  exact join_next (m3,false) [1,2,3,4,5,16,32] [.loc 0] 704 ⟨by omega,h⟩ (by cbv)
 clear h
 rintro⟨m4,b14⟩ ⟨hm4,h⟩
 try cbv
 replace hm4:m4<=m3:=hm4
 obtain _ | m4:=m4
 ·replace h:L96_4 0 z1 s3 s4 b9 b10 b11 b14=some r1:=h
  rw[L96_4]at h
  cases h
 replace h:L96_4 (m4+1) z1 s3 s4 b9 b10 b11 b14=some r1:=h
 rw[L96_4]at h
 try cbv
 cases b14
 rotate_left
 ·replace h:=itT h
  try cbv
  replace h:=bO1_inv h
  obtain⟨b15,hr,h⟩:=h
  refine call_go rfl rfl ?_
  try cbv
  refine call_pure hM hI (T74 _ hr) rfl ?_
  clear hr
  try cbv
  exact join_next (m4,(b15,b10,b11)) [2,3,4,5] [] 1088 ⟨by omega,h⟩ (by cbv)
 replace h:=itF h
 try cbv
 refine seq_joinB 37 [1,2,3,4,5,16,37] [.loc 0] 768 (fun m b=>m<=m4/\L96_5 m z1 s3 s4 b9 b10 b11 b=some r1) ?_ ?_
 ·try cbv
  refine splitI (fun e=>?_) (fun e=>?_)
  ·replace h:=ite_t e h
   clear e
   try cbv
   exact join_next (m4,true) [1,2,3,4,5,16,37] [.loc 0] 768 ⟨by omega,h⟩ (by cbv)
  replace h:=ite_f e h
  clear e
  try cbv
  exact join_next (m4,false) [1,2,3,4,5,16,37] [.loc 0] 768 ⟨by omega,h⟩ (by cbv)
 clear h
 rintro⟨m5,b16⟩ ⟨hm5,h⟩
 try cbv
 replace hm5:m5<=m4:=hm5
 obtain _ | m5:=m5
 ·replace h:L96_5 0 z1 s3 s4 b9 b10 b11 b16=some r1:=h
  rw[L96_5]at h
  cases h
 replace h:L96_5 (m5+1) z1 s3 s4 b9 b10 b11 b16=some r1:=h
 rw[L96_5]at h
 try cbv
 cases b16
 rotate_left
 ·replace h:=itT h
  try cbv
  replace h:=bO1_inv h
  obtain⟨b17,hr,h⟩:=h
  refine call_go rfl rfl ?_
  try cbv
  refine call_pure hM hI (T73 _ hr) rfl ?_
  clear hr
  try cbv
  exact join_next (m5,(b17,b10,b11)) [2,3,4,5] [] 1088 ⟨by omega,h⟩ (by cbv)
 replace h:=itF h
 try cbv
 refine seq_joinB 42 [1,2,3,4,5,42] [.loc 0] 832 (fun m b=>m<=m5/\L96_6 m s3 s4 b9 b10 b11 b=some r1) ?_ ?_
 ·try cbv
  refine splitI (fun e=>?_) (fun e=>?_)
  ·replace h:=ite_t e h
   clear e
   try cbv
   exact join_next (m5,true) [1,2,3,4,5,42] [.loc 0] 832 ⟨by omega,h⟩ (by cbv)
  replace h:=ite_f e h
  clear e
  try cbv
  exact join_next (m5,false) [1,2,3,4,5,42] [.loc 0] 832 ⟨by omega,h⟩ (by cbv)
 clear h
 rintro⟨m6,b18⟩ ⟨hm6,h⟩
 try cbv
 replace hm6:m6<=m5:=hm6
 obtain _ | m6:=m6
 ·replace h:L96_6 0 s3 s4 b9 b10 b11 b18=some r1:=h
  rw[L96_6]at h
  cases h
 replace h:L96_6 (m6+1) s3 s4 b9 b10 b11 b18=some r1:=h
 rw[L96_6]at h
 try cbv
 cases b18
 ·replace h:=itF h
  try cbv
  exact join_next (m6,(b9,b10,b11)) [2,3,4,5] [] 1088 ⟨by omega,h⟩ (by cbv)
 replace h:=itT h
 try cbv
 replace h:=bO1_inv h
 obtain⟨b19,hr,h⟩:=h
 first | refine .inr (.inl ⟨[],?_⟩) | refine .inl ⟨[],?_⟩
 try cbv
 refine call_pure hM hI (T73 _ hr) rfl ?_
 clear hr
 try cbv
 replace h:=bO1_inv h
 obtain⟨b20,hr,h⟩:=h
 first | refine .inr (.inl ⟨[],?_⟩) | refine .inl ⟨[],?_⟩
 try cbv
 refine call_pure hM hI (T73 _ hr) rfl ?_
 clear hr
 try cbv
 refine drawn ?_ ?_
 ·show _=true
  kernel_rfl
 try cbv
 exact join_next (m6,(b19,b20,b11)) [2,3,4,5] [] 1088 ⟨by omega,h⟩ (by cbv)
def L97_1:Nat->BA->LD->LD->Bool->Option (Bool)
 | 0,_,_,_,_=>none
 | n+1,s5,l6,l7,b11=>
  (if b11=true then (if s5=ByteArray.empty then lenF l6 fun z12=>lenF l7 fun z13=>(if z12=z13 then bO1 (F93x1 n l6 (6:Int)) fun b14=>some b14 else some false)else some false)else bO1 (F126 n s5 l6) fun b15=>some b15)
def F97 (n:Nat) (z1:Int) (z2:Int) (s3:BA) (s4:BA) (s5:BA) (l6:LD) (l7:LD) (z8:Int) (b9:Bool):Option (Bool):=
 (if b9=true then bO1 (F52 n s5 l6) fun b10=>some b10 else (if z1=(19:Int)then L97_1 n s5 l6 l7 true else L97_1 n s5 l6 l7 false))
theorem T97 (n:Nat):∀⦃z1 z2 s3 s4 s5 l6 l7 z8 b9 r1⦄,F97 n z1 z2 s3 s4 s5 l6 l7 z8 b9=some r1->
    Trip Tryz.prog inv 97 [.d (.agg [.int .u8 z1,.int .i64 z2,.str s3,.str s4,.str s5,.list false 1 l6,.list true 8 l7,.int .i64 z8]),.d (.bool b9)] [] (.v (.d (.bool r1))) [] []:=by
 intro z1 z2 s3 s4 s5 l6 l7 z8 b9 r1 h
 unfold F97 at h
 refine Trip.of tab_ok tab_one fol Tryz.func97 rfl (by kernel_rfl) rfl rfl rfl (fun M hM hI=>?_)
 try cbv
 refine seq_go ?_
 try cbv
 refine seq_go ?_
 try cbv
 refine seq_go ?_
 try cbv
 cases b9
 rotate_left
 ·replace h:=itT h
  try cbv
  refine seq_go ?_
  try cbv
  replace h:=bO1_inv h
  obtain⟨b10,hr,h⟩:=h
  refine call_go rfl rfl ?_
  try cbv
  refine call_pure hM hI (T52 _ hr) rfl ?_
  clear hr
  try cbv
  obtain rfl:=Option.some.inj h
  refine fin_go ?_
  try cbv
  exact⟨[],by trivial⟩
 replace h:=itF h
 try cbv
 refine seq_joinB 10 [2,4,10] [.loc 0] 256 (fun m b=>m<=n/\L97_1 m s5 l6 l7 b=some r1) ?_ ?_
 ·try cbv
  refine splitI (fun e=>?_) (fun e=>?_)
  ·replace h:=ite_t e h
   clear e
   try cbv
   exact join_next (n,true) [2,4,10] [.loc 0] 256 ⟨by omega,h⟩ (by cbv)
  replace h:=ite_f e h
  clear e
  try cbv
  exact join_next (n,false) [2,4,10] [.loc 0] 256 ⟨by omega,h⟩ (by cbv)
 clear h
 rintro⟨m1,b11⟩ ⟨hm1,h⟩
 try cbv
 replace hm1:m1<=n:=hm1
 obtain _ | m1:=m1
 ·replace h:L97_1 0 s5 l6 l7 b11=some r1:=h
  rw[L97_1]at h
  cases h
 replace h:L97_1 (m1+1) s5 l6 l7 b11=some r1:=h
 rw[L97_1]at h
 try cbv
 cases b11
 ·replace h:=itF h
  try cbv
  refine seq_go ?_
  try cbv
  replace h:=bO1_inv h
  obtain⟨b15,hr,h⟩:=h
  refine call_go rfl rfl ?_
  try cbv
  refine call_pure hM hI (T126 _ hr) rfl ?_
  clear hr
  try cbv
  obtain rfl:=Option.some.inj h
  refine fin_go ?_
  try cbv
  exact⟨[],by trivial⟩
 replace h:=itT h
 try cbv
 refine seq_go ?_
 try cbv
 refine splitS (fun e=>?_) (fun e=>?_)
 rotate_left
 ·replace h:=ite_f (bytes_ne.1 e) h
  clear e
  try cbv
  obtain rfl:=Option.some.inj h
  refine fin_go ?_
  try cbv
  exact⟨[],by trivial⟩
 replace h:=ite_t (bytes_eq.1 e) h
 clear e
 try cbv
 replace h:=lenF_inv M h
 obtain⟨z12,hz,h⟩:=h
 refine⟨z12,hz,?_⟩
 clear hz
 try cbv
 replace h:=lenF_inv M h
 obtain⟨z13,hz,h⟩:=h
 refine⟨z13,hz,?_⟩
 clear hz
 try cbv
 refine splitI (fun e=>?_) (fun e=>?_)
 ·replace h:=ite_t e h
  clear e
  try cbv
  replace h:=bO1_inv h
  obtain⟨b14,hr,h⟩:=h
  refine call_go rfl rfl ?_
  try cbv
  refine call_pure hM hI (T93x1 _ hr) rfl ?_
  clear hr
  try cbv
  obtain rfl:=Option.some.inj h
  refine fin_go ?_
  try cbv
  exact⟨[],by trivial⟩
 replace h:=ite_f e h
 clear e
 try cbv
 obtain rfl:=Option.some.inj h
 refine fin_go ?_
 try cbv
 exact⟨[],by trivial⟩
mutual
def F99:Nat->Int->Int->BA->BA->BA->LD->LD->Int->Int->Int->BA->BA->BA->LD->LD->Int->Int->Option (Bool×Int×Int×BA×BA×BA×LD×LD×Int×Int)
 | 0,_,_,_,_,_,_,_,_,_,_,_,_,_,_,_,_,_=>none
 | n+1,z1,z2,s3,s4,s5,l6,l7,z8,z9,z10,s11,s12,s13,l14,l15,z16,z17=>
  (if z9=(18:Int)then letF (IntKind.wrap .i64 (z17 - 1)) fun z18=>bO1 (F54 n z1 z2 s3 s4 s5 l6 l7 z8 z18) fun b19=>some (b19,z9,z10,s11,s12,s13,l14,l15,z16,z17)else bO1 (F53 n z1 z2 s3 s4 s5 l6 l7 z8) fun b20=>letB (!b20) fun b21=>(if b21=true then letF (IntKind.wrap .i64 (z17 - 1)) fun z22=>bO1 (F54 n z1 z2 s3 s4 s5 l6 l7 z8 z22) fun b23=>some (b23,z9,z10,s11,s12,s13,l14,l15,z16,z17)else some (false,z9,z10,s11,s12,s13,l14,l15,z16,z17)))
def L98_1:Nat->LD->Int->Int->Int->Int->BA->BA->BA->LD->LD->Int->Int->Option (Bool×Int×Int×BA×BA×BA×LD×LD×Int×Int)
 | 0,_,_,_,_,_,_,_,_,_,_,_,_=>none
 | n+1,l1,z2,z12,z13,z14,s15,s16,s17,l18,l19,z20,z21=>
  lenF l1 fun z22=>(if z12<z22 then (if z12<z2 then L98_2 n l1 z2 z12 z13 z14 s15 s16 s17 l18 l19 z20 z21 true else L98_2 n l1 z2 z12 z13 z14 s15 s16 s17 l18 l19 z20 z21 false)else L98_2 n l1 z2 z12 z13 z14 s15 s16 s17 l18 l19 z20 z21 false)
def L98_2:Nat->LD->Int->Int->Int->Int->BA->BA->BA->LD->LD->Int->Int->Bool->Option (Bool×Int×Int×BA×BA×BA×LD×LD×Int×Int)
 | 0,_,_,_,_,_,_,_,_,_,_,_,_,_=>none
 | n+1,l1,z2,z12,z13,z14,s15,s16,s17,l18,l19,z20,z21,b23=>
  (if b23=true then getF l1 z12 fun x24=>ds_t39 x24 fun z25 z26 s27 s28 s29 l30 l31 z32=>bO10 (F99 n z25 z26 s27 s28 s29 l30 l31 z32 z13 z14 s15 s16 s17 l18 l19 z20 z21) fun b33 z34 z35 s36 s37 s38 l39 l40 z41 z42=>letB (!b33) fun b43=>(if b43=true then some (false,z34,z35,s36,s37,s38,l39,l40,z41,z42)else letF (IntKind.wrap .i64 (z12+1)) fun z44=>L98_1 n l1 z2 z44 z34 z35 s36 s37 s38 l39 l40 z41 z42)else lenF l1 fun z45=>(if z45<=z2 then some (true,z13,z14,s15,s16,s17,l18,l19,z20,z21)else some (false,z13,z14,s15,s16,s17,l18,l19,z20,z21)))
def F98:Nat->LD->Int->Int->Int->BA->BA->BA->LD->LD->Int->Int->Option (Bool×Int×Int×BA×BA×BA×LD×LD×Int×Int)
 | 0,_,_,_,_,_,_,_,_,_,_,_=>none
 | n+1,l1,z2,z3,z4,s5,s6,s7,l8,l9,z10,z11=>
  L98_1 n l1 z2 (0:Int) z3 z4 s5 s6 s7 l8 l9 z10 z11
def L54_1:Nat->Int->Int->BA->BA->BA->LD->LD->Int->Int->Int->Bool->Option (Bool)
 | 0,_,_,_,_,_,_,_,_,_,_,_=>none
 | n+1,z1,z2,s3,s4,s5,l6,l7,z8,z9,z12,b20=>
  (if b20=true then some false else bO10 (F98 n l7 z12 z1 z2 s3 s4 s5 l6 l7 z8 z9) fun b21 z22 z23 s24 s25 s26 l27 l28 z29 z30=>some b21)
def F54:Nat->Int->Int->BA->BA->BA->LD->LD->Int->Int->Option (Bool)
 | 0,_,_,_,_,_,_,_,_,_=>none
 | n+1,z1,z2,s3,s4,s5,l6,l7,z8,z9=>
  bO4 (F95 n z1) fun b10 z11 z12 b13=>(if z9<(1:Int)then L54_1 n z1 z2 s3 s4 s5 l6 l7 z8 z9 z12 true else letB (!b13) fun b14=>(if b14=true then L54_1 n z1 z2 s3 s4 s5 l6 l7 z8 z9 z12 true else bO1 (F96 n z1 z2 s3 s4 s5 l6 l7 z8) fun b15=>letB (!b15) fun b16=>(if b16=true then L54_1 n z1 z2 s3 s4 s5 l6 l7 z8 z9 z12 true else lenF l7 fun z17=>(if z17<z11 then L54_1 n z1 z2 s3 s4 s5 l6 l7 z8 z9 z12 true else bO1 (F97 n z1 z2 s3 s4 s5 l6 l7 z8 b10) fun b18=>letB (!b18) fun b19=>L54_1 n z1 z2 s3 s4 s5 l6 l7 z8 z9 z12 b19))))
end
theorem G99 (n:Nat):(∀⦃z1 z2 s3 s4 s5 l6 l7 z8 z9 z10 s11 s12 s13 l14 l15 z16 z17 r1 r2 r3 r4 r5 r6 r7 r8 r9 r10⦄,F99 n z1 z2 s3 s4 s5 l6 l7 z8 z9 z10 s11 s12 s13 l14 l15 z16 z17=some (r1,r2,r3,r4,r5,r6,r7,r8,r9,r10)->
    Trip Tryz.prog inv 99 [.d (.agg [.int .u8 z1,.int .i64 z2,.str s3,.str s4,.str s5,.list false 1 l6,.list true 8 l7,.int .i64 z8]),.c (.ptr (.ext 0) 0),.c (.ptr (.ext 1) 0)] [.cells [.d (.int .u8 z9),.d (.int .i64 z10),.d (.str s11),.d (.str s12),.d (.str s13),.d (.list false 1 l14),.d (.list true 8 l15),.d (.int .i64 z16)],.cells [.d (.int .i64 z17)]] (.v (.d (.bool r1))) [.cells [.d (.int .u8 r2),.d (.int .i64 r3),.d (.str r4),.d (.str r5),.d (.str r6),.d (.list false 1 r7),.d (.list true 8 r8),.d (.int .i64 r9)],.cells [.d (.int .i64 r10)]] [])/\
    (∀⦃l1 z2 z3 z4 s5 s6 s7 l8 l9 z10 z11 r1 r2 r3 r4 r5 r6 r7 r8 r9 r10⦄,F98 n l1 z2 z3 z4 s5 s6 s7 l8 l9 z10 z11=some (r1,r2,r3,r4,r5,r6,r7,r8,r9,r10)->
    Trip Tryz.prog inv 98 [.d (.list true 8 l1),.d (.int .i64 z2),.c (.fn 99 [.ext 0,.ext 1])] [.cells [.d (.int .u8 z3),.d (.int .i64 z4),.d (.str s5),.d (.str s6),.d (.str s7),.d (.list false 1 l8),.d (.list true 8 l9),.d (.int .i64 z10)],.cells [.d (.int .i64 z11)]] (.v (.d (.bool r1))) [.cells [.d (.int .u8 r2),.d (.int .i64 r3),.d (.str r4),.d (.str r5),.d (.str r6),.d (.list false 1 r7),.d (.list true 8 r8),.d (.int .i64 r9)],.cells [.d (.int .i64 r10)]] [])/\
    (∀⦃z1 z2 s3 s4 s5 l6 l7 z8 z9 r1⦄,F54 n z1 z2 s3 s4 s5 l6 l7 z8 z9=some r1->
    Trip Tryz.prog inv 54 [.d (.agg [.int .u8 z1,.int .i64 z2,.str s3,.str s4,.str s5,.list false 1 l6,.list true 8 l7,.int .i64 z8]),.d (.int .i64 z9)] [] (.v (.d (.bool r1))) [] []):=by
 induction n using Nat.strongRecOn with | _ n ih=>
 obtain _ | n:=n
 ·refine⟨?_,?_,?_⟩
  ·intro z1 z2 s3 s4 s5 l6 l7 z8 z9 z10 s11 s12 s13 l14 l15 z16 z17 r1 r2 r3 r4 r5 r6 r7 r8 r9 r10 h
   cases (show (none:Option _)=some _ from h)
  ·intro l1 z2 z3 z4 s5 s6 s7 l8 l9 z10 z11 r1 r2 r3 r4 r5 r6 r7 r8 r9 r10 h
   cases (show (none:Option _)=some _ from h)
  intro z1 z2 s3 s4 s5 l6 l7 z8 z9 r1 h
  cases (show (none:Option _)=some _ from h)
 refine⟨?_,?_,?_⟩
 ·intro z1 z2 s3 s4 s5 l6 l7 z8 z9 z10 s11 s12 s13 l14 l15 z16 z17 r1 r2 r3 r4 r5 r6 r7 r8 r9 r10 h
  rw[F99]at h
  refine Trip.of tab_ok tab_one fol Tryz.func99 rfl (by kernel_rfl) rfl rfl rfl (fun M hM hI=>?_)
  try cbv
  refine seq_go ?_
  try cbv
  refine seq_go ?_
  try cbv
  refine splitI (fun e=>?_) (fun e=>?_)
  ·replace h:=ite_t e h
   clear e
   try cbv
   replace h:=letF_inv h
   obtain⟨z18,hz,h⟩:=h
   refine⟨z18,hz,?_⟩
   clear hz
   try cbv
   replace h:=bO1_inv h
   obtain⟨b19,hr,h⟩:=h
   refine call_go rfl rfl ?_
   try cbv
   refine call_pure hM hI ((ih _ (by omega)).2.2 hr) rfl ?_
   clear hr
   try cbv
   obtain⟨rfl,rfl,rfl,rfl,rfl,rfl,rfl,rfl,rfl,rfl⟩:=inj10 h
   refine fin_go ?_
   try cbv
   exact⟨[],rfl,rfl,⟨rfl,⟨rfl,trivial⟩⟩,trivial,trivial⟩
  replace h:=ite_f e h
  clear e
  try cbv
  replace h:=bO1_inv h
  obtain⟨b20,hr,h⟩:=h
  refine call_go rfl rfl ?_
  try cbv
  refine call_pure hM hI (T53 _ hr) rfl ?_
  clear hr
  try cbv
  replace h:=letB_inv h
  obtain⟨b21,hz,h⟩:=h
  refine⟨b21,not_eq' hz,?_⟩
  clear hz
  try cbv
  cases b21
  ·replace h:=itF h
   try cbv
   obtain⟨rfl,rfl,rfl,rfl,rfl,rfl,rfl,rfl,rfl,rfl⟩:=inj10 h
   refine fin_go ?_
   try cbv
   exact⟨[],rfl,rfl,⟨rfl,⟨rfl,trivial⟩⟩,trivial,trivial⟩
  replace h:=itT h
  try cbv
  replace h:=letF_inv h
  obtain⟨z22,hz,h⟩:=h
  refine⟨z22,hz,?_⟩
  clear hz
  try cbv
  replace h:=bO1_inv h
  obtain⟨b23,hr,h⟩:=h
  refine call_go rfl rfl ?_
  try cbv
  refine call_pure hM hI ((ih _ (by omega)).2.2 hr) rfl ?_
  clear hr
  try cbv
  obtain⟨rfl,rfl,rfl,rfl,rfl,rfl,rfl,rfl,rfl,rfl⟩:=inj10 h
  refine fin_go ?_
  try cbv
  exact⟨[],rfl,rfl,⟨rfl,⟨rfl,trivial⟩⟩,trivial,trivial⟩
 ·intro l1 z2 z3 z4 s5 s6 s7 l8 l9 z10 z11 r1 r2 r3 r4 r5 r6 r7 r8 r9 r10 h
  rw[F98]at h
  refine Trip.of tab_ok tab_one fol Tryz.func98 rfl (by kernel_rfl) rfl rfl rfl (fun M hM hI=>?_)
  try cbv
  refine seq_go ?_
  try cbv
  refine seq_go ?_
  try cbv
  refine seq_go ?_
  try cbv
  refine loop_inv (T:=Nat×Int×Int×Int×BA×BA×BA×LD×LD×Int×Int) [0,1,2,6,7] [.ext 0,.ext 1] 64 (fun t=>⟨[sT 0 8 l1,sI 1 z2,(2,.v (.c (.fn 99 [.ext 0,.ext 1]))),sB 6 false,sI 7 t.2.1],[(.ext 0,.cells [.d (.int .u8 t.2.2.1),.d (.int .i64 t.2.2.2.1),.d (.str t.2.2.2.2.1),.d (.str t.2.2.2.2.2.1),.d (.str t.2.2.2.2.2.2.1),.d (.list false 1 t.2.2.2.2.2.2.2.1),.d (.list true 8 t.2.2.2.2.2.2.2.2.1),.d (.int .i64 t.2.2.2.2.2.2.2.2.2.1)]),(.ext 1,.cells [.d (.int .i64 t.2.2.2.2.2.2.2.2.2.2)])],64⟩)
    (fun t=>t.1<=n/\L98_1 t.1 l1 z2 t.2.1 t.2.2.1 t.2.2.2.1 t.2.2.2.2.1 t.2.2.2.2.2.1 t.2.2.2.2.2.2.1 t.2.2.2.2.2.2.2.1 t.2.2.2.2.2.2.2.2.1 t.2.2.2.2.2.2.2.2.2.1 t.2.2.2.2.2.2.2.2.2.2=some (r1,r2,r3,r4,r5,r6,r7,r8,r9,r10)) (fun t=>t.1) (n,((0:Int),z3,z4,s5,s6,s7,l8,l9,z10,z11)) ⟨Nat.le_refl _,h⟩ (by cbv) ?_
  clear h
  rintro⟨m1,z12,z13,z14,s15,s16,s17,l18,l19,z20,z21⟩ ⟨hm1,h⟩
  replace hm1:m1<=n:=hm1
  obtain _ | m1:=m1
  ·replace h:L98_1 0 l1 z2 z12 z13 z14 s15 s16 s17 l18 l19 z20 z21=some (r1,r2,r3,r4,r5,r6,r7,r8,r9,r10):=h
   rw[L98_1]at h
   cases h
  replace h:L98_1 (m1+1) l1 z2 z12 z13 z14 s15 s16 s17 l18 l19 z20 z21=some (r1,r2,r3,r4,r5,r6,r7,r8,r9,r10):=h
  rw[L98_1]at h
  try cbv
  refine seq_go ?_
  try cbv
  refine seq_joinB 16 [0,1,2,6,7,16] [.ext 0,.ext 1] 352 (fun m b=>m<=m1/\L98_2 m l1 z2 z12 z13 z14 s15 s16 s17 l18 l19 z20 z21 b=some (r1,r2,r3,r4,r5,r6,r7,r8,r9,r10)) ?_ ?_
  ·try cbv
   replace h:=lenF_inv M h
   obtain⟨z22,hz,h⟩:=h
   refine⟨z22,hz,?_⟩
   clear hz
   try cbv
   refine splitL (fun e=>?_) (fun e=>?_)
   ·replace h:=ite_t e h
    clear e
    try cbv
    refine splitL (fun e=>?_) (fun e=>?_)
    ·replace h:=ite_t e h
     clear e
     try cbv
     exact join_next (m1,true) [0,1,2,6,7,16] [.ext 0,.ext 1] 352 ⟨by omega,h⟩ (by cbv)
    replace h:=ite_f (Int.not_lt.2 e) h
    clear e
    try cbv
    exact join_next (m1,false) [0,1,2,6,7,16] [.ext 0,.ext 1] 352 ⟨by omega,h⟩ (by cbv)
   replace h:=ite_f (Int.not_lt.2 e) h
   clear e
   try cbv
   exact join_next (m1,false) [0,1,2,6,7,16] [.ext 0,.ext 1] 352 ⟨by omega,h⟩ (by cbv)
  clear h
  rintro⟨m2,b23⟩ ⟨hm2,h⟩
  try cbv
  replace hm2:m2<=m1:=hm2
  obtain _ | m2:=m2
  ·replace h:L98_2 0 l1 z2 z12 z13 z14 s15 s16 s17 l18 l19 z20 z21 b23=some (r1,r2,r3,r4,r5,r6,r7,r8,r9,r10):=h
   rw[L98_2]at h
   cases h
  replace h:L98_2 (m2+1) l1 z2 z12 z13 z14 s15 s16 s17 l18 l19 z20 z21 b23=some (r1,r2,r3,r4,r5,r6,r7,r8,r9,r10):=h
  rw[L98_2]at h
  try cbv
  cases b23
  ·replace h:=itF h
   try cbv
   refine seq_go ?_
   try cbv
   replace h:=lenF_inv M h
   obtain⟨z45,hz,h⟩:=h
   refine⟨z45,hz,?_⟩
   clear hz
   try cbv
   refine splitLe (fun e=>?_) (fun e=>?_)
   ·replace h:=ite_t e h
    clear e
    try cbv
    obtain⟨rfl,rfl,rfl,rfl,rfl,rfl,rfl,rfl,rfl,rfl⟩:=inj10 h
    refine fin_go ?_
    try cbv
    exact⟨[],rfl,rfl,⟨rfl,⟨rfl,trivial⟩⟩,trivial,trivial⟩
   replace h:=ite_f (Int.not_le.2 e) h
   clear e
   try cbv
   obtain⟨rfl,rfl,rfl,rfl,rfl,rfl,rfl,rfl,rfl,rfl⟩:=inj10 h
   refine fin_go ?_
   try cbv
   exact⟨[],rfl,rfl,⟨rfl,⟨rfl,trivial⟩⟩,trivial,trivial⟩
  replace h:=itT h
  try cbv
  refine seq_go ?_
  try cbv
  refine seq_go ?_
  try cbv
  replace h:=getF_inv h
  obtain⟨x24,⟨hx0,hx⟩,h⟩:=h
  refine⟨x24,hx0,hx,?_⟩
  clear hx0 hx
  replace h:=ds_t39_inv h
  obtain⟨z25,z26,s27,s28,s29,l30,l31,z32,rfl,h⟩:=h
  try cbv
  replace h:=bO10_inv h
  obtain⟨b33,z34,z35,s36,s37,s38,l39,l40,z41,z42,hr,h⟩:=h
  refine call_go rfl rfl ?_
  try cbv
  refine call_with hM hI [.ext 0,.ext 1] ((ih _ (by omega)).1 hr) rfl (by simp) ⟨rfl,⟨rfl,trivial⟩⟩ ⟨trivial,⟨trivial,trivial⟩⟩ (by simp) ?_
  clear hr
  try cbv
  replace h:=letB_inv h
  obtain⟨b43,hz,h⟩:=h
  refine⟨b43,not_eq' hz,?_⟩
  clear hz
  try cbv
  cases b43
  ·replace h:=itF h
   try cbv
   replace h:=letF_inv h
   obtain⟨z44,hz,h⟩:=h
   refine⟨z44,hz,?_⟩
   clear hz
   try cbv
   exact loop_next (m2,(z44,z34,z35,s36,s37,s38,l39,l40,z41,z42)) [0,1,2,6,7] [.ext 0,.ext 1] 64 ⟨by omega,h⟩ (Nat.lt_succ_of_le (by omega)) (by cbv)
  replace h:=itT h
  try cbv
  refine seq_go ?_
  try cbv
  obtain⟨rfl,rfl,rfl,rfl,rfl,rfl,rfl,rfl,rfl,rfl⟩:=inj10 h
  refine fin_go ?_
  try cbv
  exact⟨[],rfl,rfl,⟨rfl,⟨rfl,trivial⟩⟩,trivial,trivial⟩
 intro z1 z2 s3 s4 s5 l6 l7 z8 z9 r1 h
 rw[F54]at h
 refine Trip.of tab_ok tab_one fol Tryz.func54 rfl (by kernel_rfl) rfl rfl rfl (fun M hM hI=>?_)
 try cbv
 refine seq_go ?_
 try cbv
 refine seq_go ?_
 try cbv
 replace h:=bO4_inv h
 obtain⟨b10,z11,z12,b13,hr,h⟩:=h
 refine call_go rfl rfl ?_
 try cbv
 refine call_pure hM hI (T95 _ hr) rfl ?_
 clear hr
 try cbv
 refine seq_go ?_
 try cbv
 refine seq_joinB 38 [2,3,4,5,38] [.loc 0,.loc 32,.loc 288] 1216 (fun m b=>m<=n/\L54_1 m z1 z2 s3 s4 s5 l6 l7 z8 z9 z12 b=some r1) ?_ ?_
 rotate_left
 ·clear h
  rintro⟨m1,b20⟩ ⟨hm1,h⟩
  try cbv
  replace hm1:m1<=n:=hm1
  obtain _ | m1:=m1
  ·replace h:L54_1 0 z1 z2 s3 s4 s5 l6 l7 z8 z9 z12 b20=some r1:=h
   rw[L54_1]at h
   cases h
  replace h:L54_1 (m1+1) z1 z2 s3 s4 s5 l6 l7 z8 z9 z12 b20=some r1:=h
  rw[L54_1]at h
  try cbv
  cases b20
  ·replace h:=itF h
   try cbv
   refine seq_go ?_
   try cbv
   replace h:=bO10_inv h
   obtain⟨b21,z22,z23,s24,s25,s26,l27,l28,z29,z30,hr,h⟩:=h
   refine call_go rfl rfl ?_
   try cbv
   refine call_with hM hI [.loc 0,.loc 32] ((ih _ (by omega)).2.1 hr) rfl (by simp) ⟨rfl,⟨rfl,trivial⟩⟩ ⟨trivial,⟨trivial,trivial⟩⟩ (by simp) ?_
   clear hr
   try cbv
   obtain rfl:=Option.some.inj h
   refine fin_go ?_
   try cbv
   exact⟨[],by trivial⟩
  replace h:=itT h
  try cbv
  refine seq_go ?_
  try cbv
  obtain rfl:=Option.some.inj h
  refine fin_go ?_
  try cbv
  exact⟨[],by trivial⟩
 try cbv
 refine splitL (fun e=>?_) (fun e=>?_)
 ·replace h:=ite_t e h
  clear e
  try cbv
  exact join_next (n,true) [2,3,4,5,38] [.loc 0,.loc 32,.loc 288] 1216 ⟨by omega,h⟩ (by cbv)
 replace h:=ite_f (Int.not_lt.2 e) h
 clear e
 try cbv
 replace h:=letB_inv h
 obtain⟨b14,hz,h⟩:=h
 refine⟨b14,not_eq' hz,?_⟩
 clear hz
 try cbv
 cases b14
 rotate_left
 ·replace h:=itT h
  try cbv
  exact join_next (n,true) [2,3,4,5,38] [.loc 0,.loc 32,.loc 288] 1216 ⟨by omega,h⟩ (by cbv)
 replace h:=itF h
 try cbv
 replace h:=bO1_inv h
 obtain⟨b15,hr,h⟩:=h
 refine call_go rfl rfl ?_
 try cbv
 refine call_pure hM hI (T96 _ hr) rfl ?_
 clear hr
 try cbv
 replace h:=letB_inv h
 obtain⟨b16,hz,h⟩:=h
 refine⟨b16,not_eq' hz,?_⟩
 clear hz
 try cbv
 cases b16
 rotate_left
 ·replace h:=itT h
  try cbv
  exact join_next (n,true) [2,3,4,5,38] [.loc 0,.loc 32,.loc 288] 1216 ⟨by omega,h⟩ (by cbv)
 replace h:=itF h
 try cbv
 replace h:=lenF_inv M h
 obtain⟨z17,hz,h⟩:=h
 refine⟨z17,hz,?_⟩
 clear hz
 try cbv
 refine splitL (fun e=>?_) (fun e=>?_)
 ·replace h:=ite_t e h
  clear e
  try cbv
  exact join_next (n,true) [2,3,4,5,38] [.loc 0,.loc 32,.loc 288] 1216 ⟨by omega,h⟩ (by cbv)
 replace h:=ite_f (Int.not_lt.2 e) h
 clear e
 try cbv
 replace h:=bO1_inv h
 obtain⟨b18,hr,h⟩:=h
 refine call_go rfl rfl ?_
 try cbv
 refine call_pure hM hI (T97 _ hr) rfl ?_
 clear hr
 try cbv
 replace h:=letB_inv h
 obtain⟨b19,hz,h⟩:=h
 refine⟨b19,not_eq' hz,?_⟩
 clear hz
 try cbv
 exact join_next (n,b19) [2,3,4,5,38] [.loc 0,.loc 32,.loc 288] 1216 ⟨by omega,h⟩ (by cbv)
theorem T54 (n:Nat):∀⦃z1 z2 s3 s4 s5 l6 l7 z8 z9 r1⦄,F54 n z1 z2 s3 s4 s5 l6 l7 z8 z9=some r1->
  Trip Tryz.prog inv 54 [.d (.agg [.int .u8 z1,.int .i64 z2,.str s3,.str s4,.str s5,.list false 1 l6,.list true 8 l7,.int .i64 z8]),.d (.int .i64 z9)] [] (.v (.d (.bool r1))) [] []:=(G99 n).2.2
def F128 (n:Nat) (z1:Int) (z2:Int) (s3:BA) (s4:BA) (s5:BA) (l6:LD) (l7:LD) (z8:Int) (z9:Int) (z10:Int) (b11:Bool) (b12:Bool) (b13:Bool) (b14:Bool) (b15:Bool) (b16:Bool) (z17:Int):Option (Bool×Int×Int×Bool×Bool×Bool×Bool×Bool×Bool×Int):=
 (if b16=true then letF (IntKind.wrap .i64 (z17 - 1)) fun z18=>bO1 (F54 n z1 z2 s3 s4 s5 l6 l7 z8 z18) fun b19=>some (b19,z9,z10,b11,b12,b13,b14,b15,true,z17)else bO1 (F53 n z1 z2 s3 s4 s5 l6 l7 z8) fun b20=>letB (!b20) fun b21=>(if b21=true then letF (IntKind.wrap .i64 (z17 - 1)) fun z22=>bO1 (F54 n z1 z2 s3 s4 s5 l6 l7 z8 z22) fun b23=>some (b23,z9,z10,b11,b12,b13,b14,b15,false,z17)else some (false,z9,z10,b11,b12,b13,b14,b15,false,z17)))
theorem T128 (n:Nat):∀⦃z1 z2 s3 s4 s5 l6 l7 z8 z9 z10 b11 b12 b13 b14 b15 b16 z17 r1 r2 r3 r4 r5 r6 r7 r8 r9 r10⦄,F128 n z1 z2 s3 s4 s5 l6 l7 z8 z9 z10 b11 b12 b13 b14 b15 b16 z17=some (r1,r2,r3,r4,r5,r6,r7,r8,r9,r10)->
    Trip Tryz.prog inv 128 [.d (.agg [.int .u8 z1,.int .i64 z2,.str s3,.str s4,.str s5,.list false 1 l6,.list true 8 l7,.int .i64 z8]),.c (.ptr (.ext 0) 0),.c (.ptr (.ext 1) 0)] [.cells [.d (.int .i64 z9),.d (.int .i64 z10),.d (.bool b11),.d (.bool b12),.d (.bool b13),.d (.bool b14),.d (.bool b15),.d (.bool b16),.fn 145 [],.fn 145 []],.cells [.d (.int .i64 z17)]] (.v (.d (.bool r1))) [.cells [.d (.int .i64 r2),.d (.int .i64 r3),.d (.bool r4),.d (.bool r5),.d (.bool r6),.d (.bool r7),.d (.bool r8),.d (.bool r9),.fn 145 [],.fn 145 []],.cells [.d (.int .i64 r10)]] []:=by
 intro z1 z2 s3 s4 s5 l6 l7 z8 z9 z10 b11 b12 b13 b14 b15 b16 z17 r1 r2 r3 r4 r5 r6 r7 r8 r9 r10 h
 unfold F128 at h
 refine Trip.of tab_ok tab_one fol Tryz.func128 rfl (by kernel_rfl) rfl rfl rfl (fun M hM hI=>?_)
 try cbv
 refine seq_go ?_
 try cbv
 refine seq_go ?_
 try cbv
 cases b16
 rotate_left
 ·replace h:=itT h
  try cbv
  replace h:=letF_inv h
  obtain⟨z18,hz,h⟩:=h
  refine⟨z18,hz,?_⟩
  clear hz
  try cbv
  replace h:=bO1_inv h
  obtain⟨b19,hr,h⟩:=h
  refine call_go rfl rfl ?_
  try cbv
  refine call_pure hM hI (T54 _ hr) rfl ?_
  clear hr
  try cbv
  obtain⟨rfl,rfl,rfl,rfl,rfl,rfl,rfl,rfl,rfl,rfl⟩:=inj10 h
  refine fin_go ?_
  try cbv
  exact⟨[],rfl,rfl,⟨rfl,⟨rfl,trivial⟩⟩,trivial,trivial⟩
 replace h:=itF h
 try cbv
 replace h:=bO1_inv h
 obtain⟨b20,hr,h⟩:=h
 refine call_go rfl rfl ?_
 try cbv
 refine call_pure hM hI (T53 _ hr) rfl ?_
 clear hr
 try cbv
 replace h:=letB_inv h
 obtain⟨b21,hz,h⟩:=h
 refine⟨b21,not_eq' hz,?_⟩
 clear hz
 try cbv
 cases b21
 ·replace h:=itF h
  try cbv
  obtain⟨rfl,rfl,rfl,rfl,rfl,rfl,rfl,rfl,rfl,rfl⟩:=inj10 h
  refine fin_go ?_
  try cbv
  exact⟨[],rfl,rfl,⟨rfl,⟨rfl,trivial⟩⟩,trivial,trivial⟩
 replace h:=itT h
 try cbv
 replace h:=letF_inv h
 obtain⟨z22,hz,h⟩:=h
 refine⟨z22,hz,?_⟩
 clear hz
 try cbv
 replace h:=bO1_inv h
 obtain⟨b23,hr,h⟩:=h
 refine call_go rfl rfl ?_
 try cbv
 refine call_pure hM hI (T54 _ hr) rfl ?_
 clear hr
 try cbv
 obtain⟨rfl,rfl,rfl,rfl,rfl,rfl,rfl,rfl,rfl,rfl⟩:=inj10 h
 refine fin_go ?_
 try cbv
 exact⟨[],rfl,rfl,⟨rfl,⟨rfl,trivial⟩⟩,trivial,trivial⟩
mutual
def L98x1_1:Nat->LD->Int->Int->Int->Int->Bool->Bool->Bool->Bool->Bool->Bool->Int->Option (Bool×Int×Int×Bool×Bool×Bool×Bool×Bool×Bool×Int)
 | 0,_,_,_,_,_,_,_,_,_,_,_,_=>none
 | n+1,l1,z2,z12,z13,z14,b15,b16,b17,b18,b19,b20,z21=>
  lenF l1 fun z22=>(if z12<z22 then (if z12<z2 then L98x1_2 n l1 z2 z12 z13 z14 b15 b16 b17 b18 b19 b20 z21 true else L98x1_2 n l1 z2 z12 z13 z14 b15 b16 b17 b18 b19 b20 z21 false)else L98x1_2 n l1 z2 z12 z13 z14 b15 b16 b17 b18 b19 b20 z21 false)
def L98x1_2:Nat->LD->Int->Int->Int->Int->Bool->Bool->Bool->Bool->Bool->Bool->Int->Bool->Option (Bool×Int×Int×Bool×Bool×Bool×Bool×Bool×Bool×Int)
 | 0,_,_,_,_,_,_,_,_,_,_,_,_,_=>none
 | n+1,l1,z2,z12,z13,z14,b15,b16,b17,b18,b19,b20,z21,b23=>
  (if b23=true then getF l1 z12 fun x24=>ds_t39 x24 fun z25 z26 s27 s28 s29 l30 l31 z32=>bO10 (F128 n z25 z26 s27 s28 s29 l30 l31 z32 z13 z14 b15 b16 b17 b18 b19 b20 z21) fun b33 z34 z35 b36 b37 b38 b39 b40 b41 z42=>letB (!b33) fun b43=>(if b43=true then some (false,z34,z35,b36,b37,b38,b39,b40,b41,z42)else letF (IntKind.wrap .i64 (z12+1)) fun z44=>L98x1_1 n l1 z2 z44 z34 z35 b36 b37 b38 b39 b40 b41 z42)else lenF l1 fun z45=>(if z45<=z2 then some (true,z13,z14,b15,b16,b17,b18,b19,b20,z21)else some (false,z13,z14,b15,b16,b17,b18,b19,b20,z21)))
end
def F98x1 (n:Nat) (l1:LD) (z2:Int) (z3:Int) (z4:Int) (b5:Bool) (b6:Bool) (b7:Bool) (b8:Bool) (b9:Bool) (b10:Bool) (z11:Int):Option (Bool×Int×Int×Bool×Bool×Bool×Bool×Bool×Bool×Int):=
 L98x1_1 n l1 z2 (0:Int) z3 z4 b5 b6 b7 b8 b9 b10 z11
theorem T98x1 (n:Nat):∀⦃l1 z2 z3 z4 b5 b6 b7 b8 b9 b10 z11 r1 r2 r3 r4 r5 r6 r7 r8 r9 r10⦄,F98x1 n l1 z2 z3 z4 b5 b6 b7 b8 b9 b10 z11=some (r1,r2,r3,r4,r5,r6,r7,r8,r9,r10)->
    Trip Tryz.prog inv 98 [.d (.list true 8 l1),.d (.int .i64 z2),.c (.fn 128 [.ext 0,.ext 1])] [.cells [.d (.int .i64 z3),.d (.int .i64 z4),.d (.bool b5),.d (.bool b6),.d (.bool b7),.d (.bool b8),.d (.bool b9),.d (.bool b10),.fn 145 [],.fn 145 []],.cells [.d (.int .i64 z11)]] (.v (.d (.bool r1))) [.cells [.d (.int .i64 r2),.d (.int .i64 r3),.d (.bool r4),.d (.bool r5),.d (.bool r6),.d (.bool r7),.d (.bool r8),.d (.bool r9),.fn 145 [],.fn 145 []],.cells [.d (.int .i64 r10)]] []:=by
 intro l1 z2 z3 z4 b5 b6 b7 b8 b9 b10 z11 r1 r2 r3 r4 r5 r6 r7 r8 r9 r10 h
 unfold F98x1 at h
 refine Trip.of tab_ok tab_one fol Tryz.func98 rfl (by kernel_rfl) rfl rfl rfl (fun M hM hI=>?_)
 try cbv
 refine seq_go ?_
 try cbv
 refine seq_go ?_
 try cbv
 refine seq_go ?_
 try cbv
 refine loop_inv (T:=Nat×Int×Int×Int×Bool×Bool×Bool×Bool×Bool×Bool×Int) [0,1,2,6,7] [.ext 0,.ext 1] 64 (fun t=>⟨[sT 0 8 l1,sI 1 z2,(2,.v (.c (.fn 128 [.ext 0,.ext 1]))),sB 6 false,sI 7 t.2.1],[(.ext 0,.cells [.d (.int .i64 t.2.2.1),.d (.int .i64 t.2.2.2.1),.d (.bool t.2.2.2.2.1),.d (.bool t.2.2.2.2.2.1),.d (.bool t.2.2.2.2.2.2.1),.d (.bool t.2.2.2.2.2.2.2.1),.d (.bool t.2.2.2.2.2.2.2.2.1),.d (.bool t.2.2.2.2.2.2.2.2.2.1),.fn 145 [],.fn 145 []]),(.ext 1,.cells [.d (.int .i64 t.2.2.2.2.2.2.2.2.2.2)])],64⟩)
   (fun t=>t.1<=n/\L98x1_1 t.1 l1 z2 t.2.1 t.2.2.1 t.2.2.2.1 t.2.2.2.2.1 t.2.2.2.2.2.1 t.2.2.2.2.2.2.1 t.2.2.2.2.2.2.2.1 t.2.2.2.2.2.2.2.2.1 t.2.2.2.2.2.2.2.2.2.1 t.2.2.2.2.2.2.2.2.2.2=some (r1,r2,r3,r4,r5,r6,r7,r8,r9,r10)) (fun t=>t.1) (n,((0:Int),z3,z4,b5,b6,b7,b8,b9,b10,z11)) ⟨Nat.le_refl _,h⟩ (by cbv) ?_
 clear h
 rintro⟨m1,z12,z13,z14,b15,b16,b17,b18,b19,b20,z21⟩ ⟨hm1,h⟩
 replace hm1:m1<=n:=hm1
 obtain _ | m1:=m1
 ·replace h:L98x1_1 0 l1 z2 z12 z13 z14 b15 b16 b17 b18 b19 b20 z21=some (r1,r2,r3,r4,r5,r6,r7,r8,r9,r10):=h
  rw[L98x1_1]at h
  cases h
 replace h:L98x1_1 (m1+1) l1 z2 z12 z13 z14 b15 b16 b17 b18 b19 b20 z21=some (r1,r2,r3,r4,r5,r6,r7,r8,r9,r10):=h
 rw[L98x1_1]at h
 try cbv
 refine seq_go ?_
 try cbv
 refine seq_joinB 16 [0,1,2,6,7,16] [.ext 0,.ext 1] 352 (fun m b=>m<=m1/\L98x1_2 m l1 z2 z12 z13 z14 b15 b16 b17 b18 b19 b20 z21 b=some (r1,r2,r3,r4,r5,r6,r7,r8,r9,r10)) ?_ ?_
 ·try cbv
  replace h:=lenF_inv M h
  obtain⟨z22,hz,h⟩:=h
  refine⟨z22,hz,?_⟩
  clear hz
  try cbv
  refine splitL (fun e=>?_) (fun e=>?_)
  ·replace h:=ite_t e h
   clear e
   try cbv
   refine splitL (fun e=>?_) (fun e=>?_)
   ·replace h:=ite_t e h
    clear e
    try cbv
    exact join_next (m1,true) [0,1,2,6,7,16] [.ext 0,.ext 1] 352 ⟨by omega,h⟩ (by cbv)
   replace h:=ite_f (Int.not_lt.2 e) h
   clear e
   try cbv
   exact join_next (m1,false) [0,1,2,6,7,16] [.ext 0,.ext 1] 352 ⟨by omega,h⟩ (by cbv)
  replace h:=ite_f (Int.not_lt.2 e) h
  clear e
  try cbv
  exact join_next (m1,false) [0,1,2,6,7,16] [.ext 0,.ext 1] 352 ⟨by omega,h⟩ (by cbv)
 clear h
 rintro⟨m2,b23⟩ ⟨hm2,h⟩
 try cbv
 replace hm2:m2<=m1:=hm2
 obtain _ | m2:=m2
 ·replace h:L98x1_2 0 l1 z2 z12 z13 z14 b15 b16 b17 b18 b19 b20 z21 b23=some (r1,r2,r3,r4,r5,r6,r7,r8,r9,r10):=h
  rw[L98x1_2]at h
  cases h
 replace h:L98x1_2 (m2+1) l1 z2 z12 z13 z14 b15 b16 b17 b18 b19 b20 z21 b23=some (r1,r2,r3,r4,r5,r6,r7,r8,r9,r10):=h
 rw[L98x1_2]at h
 try cbv
 cases b23
 ·replace h:=itF h
  try cbv
  refine seq_go ?_
  try cbv
  replace h:=lenF_inv M h
  obtain⟨z45,hz,h⟩:=h
  refine⟨z45,hz,?_⟩
  clear hz
  try cbv
  refine splitLe (fun e=>?_) (fun e=>?_)
  ·replace h:=ite_t e h
   clear e
   try cbv
   obtain⟨rfl,rfl,rfl,rfl,rfl,rfl,rfl,rfl,rfl,rfl⟩:=inj10 h
   refine fin_go ?_
   try cbv
   exact⟨[],rfl,rfl,⟨rfl,⟨rfl,trivial⟩⟩,trivial,trivial⟩
  replace h:=ite_f (Int.not_le.2 e) h
  clear e
  try cbv
  obtain⟨rfl,rfl,rfl,rfl,rfl,rfl,rfl,rfl,rfl,rfl⟩:=inj10 h
  refine fin_go ?_
  try cbv
  exact⟨[],rfl,rfl,⟨rfl,⟨rfl,trivial⟩⟩,trivial,trivial⟩
 replace h:=itT h
 try cbv
 refine seq_go ?_
 try cbv
 refine seq_go ?_
 try cbv
 replace h:=getF_inv h
 obtain⟨x24,⟨hx0,hx⟩,h⟩:=h
 refine⟨x24,hx0,hx,?_⟩
 clear hx0 hx
 replace h:=ds_t39_inv h
 obtain⟨z25,z26,s27,s28,s29,l30,l31,z32,rfl,h⟩:=h
 try cbv
 replace h:=bO10_inv h
 obtain⟨b33,z34,z35,b36,b37,b38,b39,b40,b41,z42,hr,h⟩:=h
 refine call_go rfl rfl ?_
 try cbv
 refine call_with hM hI [.ext 0,.ext 1] (T128 _ hr) rfl (by simp) ⟨rfl,⟨rfl,trivial⟩⟩ ⟨trivial,⟨trivial,trivial⟩⟩ (by simp) ?_
 clear hr
 try cbv
 replace h:=letB_inv h
 obtain⟨b43,hz,h⟩:=h
 refine⟨b43,not_eq' hz,?_⟩
 clear hz
 try cbv
 cases b43
 ·replace h:=itF h
  try cbv
  replace h:=letF_inv h
  obtain⟨z44,hz,h⟩:=h
  refine⟨z44,hz,?_⟩
  clear hz
  try cbv
  exact loop_next (m2,(z44,z34,z35,b36,b37,b38,b39,b40,b41,z42)) [0,1,2,6,7] [.ext 0,.ext 1] 64 ⟨by omega,h⟩ (Nat.lt_succ_of_le (by omega)) (by cbv)
 replace h:=itT h
 try cbv
 refine seq_go ?_
 try cbv
 obtain⟨rfl,rfl,rfl,rfl,rfl,rfl,rfl,rfl,rfl,rfl⟩:=inj10 h
 refine fin_go ?_
 try cbv
 exact⟨[],rfl,rfl,⟨rfl,⟨rfl,trivial⟩⟩,trivial,trivial⟩
def F128x1 (n:Nat) (z1:Int) (z2:Int) (s3:BA) (s4:BA) (s5:BA) (l6:LD) (l7:LD) (z8:Int) (z9:Int) (z10:Int) (b11:Bool) (b12:Bool) (b13:Bool) (b14:Bool) (b15:Bool) (b16:Bool) (z17:Int):Option (Bool×Int×Int×Bool×Bool×Bool×Bool×Bool×Bool×Int):=
 (if b16=true then letF (IntKind.wrap .i64 (z17 - 1)) fun z18=>bO1 (F54 n z1 z2 s3 s4 s5 l6 l7 z8 z18) fun b19=>some (b19,z9,z10,b11,b12,b13,b14,b15,true,z17)else bO1 (F53 n z1 z2 s3 s4 s5 l6 l7 z8) fun b20=>letB (!b20) fun b21=>(if b21=true then letF (IntKind.wrap .i64 (z17 - 1)) fun z22=>bO1 (F54 n z1 z2 s3 s4 s5 l6 l7 z8 z22) fun b23=>some (b23,z9,z10,b11,b12,b13,b14,b15,false,z17)else some (false,z9,z10,b11,b12,b13,b14,b15,false,z17)))
theorem T128x1 (n:Nat):∀⦃z1 z2 s3 s4 s5 l6 l7 z8 z9 z10 b11 b12 b13 b14 b15 b16 z17 r1 r2 r3 r4 r5 r6 r7 r8 r9 r10⦄,F128x1 n z1 z2 s3 s4 s5 l6 l7 z8 z9 z10 b11 b12 b13 b14 b15 b16 z17=some (r1,r2,r3,r4,r5,r6,r7,r8,r9,r10)->
    Trip Tryz.prog inv 128 [.d (.agg [.int .u8 z1,.int .i64 z2,.str s3,.str s4,.str s5,.list false 1 l6,.list true 8 l7,.int .i64 z8]),.c (.ptr (.ext 0) 0),.c (.ptr (.ext 1) 0)] [.cells [.d (.int .i64 z9),.d (.int .i64 z10),.d (.bool b11),.d (.bool b12),.d (.bool b13),.d (.bool b14),.d (.bool b15),.d (.bool b16),.fn 74 [],.fn 145 []],.cells [.d (.int .i64 z17)]] (.v (.d (.bool r1))) [.cells [.d (.int .i64 r2),.d (.int .i64 r3),.d (.bool r4),.d (.bool r5),.d (.bool r6),.d (.bool r7),.d (.bool r8),.d (.bool r9),.fn 74 [],.fn 145 []],.cells [.d (.int .i64 r10)]] []:=by
 intro z1 z2 s3 s4 s5 l6 l7 z8 z9 z10 b11 b12 b13 b14 b15 b16 z17 r1 r2 r3 r4 r5 r6 r7 r8 r9 r10 h
 unfold F128x1 at h
 refine Trip.of tab_ok tab_one fol Tryz.func128 rfl (by kernel_rfl) rfl rfl rfl (fun M hM hI=>?_)
 try cbv
 refine seq_go ?_
 try cbv
 refine seq_go ?_
 try cbv
 cases b16
 rotate_left
 ·replace h:=itT h
  try cbv
  replace h:=letF_inv h
  obtain⟨z18,hz,h⟩:=h
  refine⟨z18,hz,?_⟩
  clear hz
  try cbv
  replace h:=bO1_inv h
  obtain⟨b19,hr,h⟩:=h
  refine call_go rfl rfl ?_
  try cbv
  refine call_pure hM hI (T54 _ hr) rfl ?_
  clear hr
  try cbv
  obtain⟨rfl,rfl,rfl,rfl,rfl,rfl,rfl,rfl,rfl,rfl⟩:=inj10 h
  refine fin_go ?_
  try cbv
  exact⟨[],rfl,rfl,⟨rfl,⟨rfl,trivial⟩⟩,trivial,trivial⟩
 replace h:=itF h
 try cbv
 replace h:=bO1_inv h
 obtain⟨b20,hr,h⟩:=h
 refine call_go rfl rfl ?_
 try cbv
 refine call_pure hM hI (T53 _ hr) rfl ?_
 clear hr
 try cbv
 replace h:=letB_inv h
 obtain⟨b21,hz,h⟩:=h
 refine⟨b21,not_eq' hz,?_⟩
 clear hz
 try cbv
 cases b21
 ·replace h:=itF h
  try cbv
  obtain⟨rfl,rfl,rfl,rfl,rfl,rfl,rfl,rfl,rfl,rfl⟩:=inj10 h
  refine fin_go ?_
  try cbv
  exact⟨[],rfl,rfl,⟨rfl,⟨rfl,trivial⟩⟩,trivial,trivial⟩
 replace h:=itT h
 try cbv
 replace h:=letF_inv h
 obtain⟨z22,hz,h⟩:=h
 refine⟨z22,hz,?_⟩
 clear hz
 try cbv
 replace h:=bO1_inv h
 obtain⟨b23,hr,h⟩:=h
 refine call_go rfl rfl ?_
 try cbv
 refine call_pure hM hI (T54 _ hr) rfl ?_
 clear hr
 try cbv
 obtain⟨rfl,rfl,rfl,rfl,rfl,rfl,rfl,rfl,rfl,rfl⟩:=inj10 h
 refine fin_go ?_
 try cbv
 exact⟨[],rfl,rfl,⟨rfl,⟨rfl,trivial⟩⟩,trivial,trivial⟩
mutual
def L98x2_1:Nat->LD->Int->Int->Int->Int->Bool->Bool->Bool->Bool->Bool->Bool->Int->Option (Bool×Int×Int×Bool×Bool×Bool×Bool×Bool×Bool×Int)
 | 0,_,_,_,_,_,_,_,_,_,_,_,_=>none
 | n+1,l1,z2,z12,z13,z14,b15,b16,b17,b18,b19,b20,z21=>
  lenF l1 fun z22=>(if z12<z22 then (if z12<z2 then L98x2_2 n l1 z2 z12 z13 z14 b15 b16 b17 b18 b19 b20 z21 true else L98x2_2 n l1 z2 z12 z13 z14 b15 b16 b17 b18 b19 b20 z21 false)else L98x2_2 n l1 z2 z12 z13 z14 b15 b16 b17 b18 b19 b20 z21 false)
def L98x2_2:Nat->LD->Int->Int->Int->Int->Bool->Bool->Bool->Bool->Bool->Bool->Int->Bool->Option (Bool×Int×Int×Bool×Bool×Bool×Bool×Bool×Bool×Int)
 | 0,_,_,_,_,_,_,_,_,_,_,_,_,_=>none
 | n+1,l1,z2,z12,z13,z14,b15,b16,b17,b18,b19,b20,z21,b23=>
  (if b23=true then getF l1 z12 fun x24=>ds_t39 x24 fun z25 z26 s27 s28 s29 l30 l31 z32=>bO10 (F128x1 n z25 z26 s27 s28 s29 l30 l31 z32 z13 z14 b15 b16 b17 b18 b19 b20 z21) fun b33 z34 z35 b36 b37 b38 b39 b40 b41 z42=>letB (!b33) fun b43=>(if b43=true then some (false,z34,z35,b36,b37,b38,b39,b40,b41,z42)else letF (IntKind.wrap .i64 (z12+1)) fun z44=>L98x2_1 n l1 z2 z44 z34 z35 b36 b37 b38 b39 b40 b41 z42)else lenF l1 fun z45=>(if z45<=z2 then some (true,z13,z14,b15,b16,b17,b18,b19,b20,z21)else some (false,z13,z14,b15,b16,b17,b18,b19,b20,z21)))
end
def F98x2 (n:Nat) (l1:LD) (z2:Int) (z3:Int) (z4:Int) (b5:Bool) (b6:Bool) (b7:Bool) (b8:Bool) (b9:Bool) (b10:Bool) (z11:Int):Option (Bool×Int×Int×Bool×Bool×Bool×Bool×Bool×Bool×Int):=
 L98x2_1 n l1 z2 (0:Int) z3 z4 b5 b6 b7 b8 b9 b10 z11
theorem T98x2 (n:Nat):∀⦃l1 z2 z3 z4 b5 b6 b7 b8 b9 b10 z11 r1 r2 r3 r4 r5 r6 r7 r8 r9 r10⦄,F98x2 n l1 z2 z3 z4 b5 b6 b7 b8 b9 b10 z11=some (r1,r2,r3,r4,r5,r6,r7,r8,r9,r10)->
    Trip Tryz.prog inv 98 [.d (.list true 8 l1),.d (.int .i64 z2),.c (.fn 128 [.ext 0,.ext 1])] [.cells [.d (.int .i64 z3),.d (.int .i64 z4),.d (.bool b5),.d (.bool b6),.d (.bool b7),.d (.bool b8),.d (.bool b9),.d (.bool b10),.fn 74 [],.fn 145 []],.cells [.d (.int .i64 z11)]] (.v (.d (.bool r1))) [.cells [.d (.int .i64 r2),.d (.int .i64 r3),.d (.bool r4),.d (.bool r5),.d (.bool r6),.d (.bool r7),.d (.bool r8),.d (.bool r9),.fn 74 [],.fn 145 []],.cells [.d (.int .i64 r10)]] []:=by
 intro l1 z2 z3 z4 b5 b6 b7 b8 b9 b10 z11 r1 r2 r3 r4 r5 r6 r7 r8 r9 r10 h
 unfold F98x2 at h
 refine Trip.of tab_ok tab_one fol Tryz.func98 rfl (by kernel_rfl) rfl rfl rfl (fun M hM hI=>?_)
 try cbv
 refine seq_go ?_
 try cbv
 refine seq_go ?_
 try cbv
 refine seq_go ?_
 try cbv
 refine loop_inv (T:=Nat×Int×Int×Int×Bool×Bool×Bool×Bool×Bool×Bool×Int) [0,1,2,6,7] [.ext 0,.ext 1] 64 (fun t=>⟨[sT 0 8 l1,sI 1 z2,(2,.v (.c (.fn 128 [.ext 0,.ext 1]))),sB 6 false,sI 7 t.2.1],[(.ext 0,.cells [.d (.int .i64 t.2.2.1),.d (.int .i64 t.2.2.2.1),.d (.bool t.2.2.2.2.1),.d (.bool t.2.2.2.2.2.1),.d (.bool t.2.2.2.2.2.2.1),.d (.bool t.2.2.2.2.2.2.2.1),.d (.bool t.2.2.2.2.2.2.2.2.1),.d (.bool t.2.2.2.2.2.2.2.2.2.1),.fn 74 [],.fn 145 []]),(.ext 1,.cells [.d (.int .i64 t.2.2.2.2.2.2.2.2.2.2)])],64⟩)
   (fun t=>t.1<=n/\L98x2_1 t.1 l1 z2 t.2.1 t.2.2.1 t.2.2.2.1 t.2.2.2.2.1 t.2.2.2.2.2.1 t.2.2.2.2.2.2.1 t.2.2.2.2.2.2.2.1 t.2.2.2.2.2.2.2.2.1 t.2.2.2.2.2.2.2.2.2.1 t.2.2.2.2.2.2.2.2.2.2=some (r1,r2,r3,r4,r5,r6,r7,r8,r9,r10)) (fun t=>t.1) (n,((0:Int),z3,z4,b5,b6,b7,b8,b9,b10,z11)) ⟨Nat.le_refl _,h⟩ (by cbv) ?_
 clear h
 rintro⟨m1,z12,z13,z14,b15,b16,b17,b18,b19,b20,z21⟩ ⟨hm1,h⟩
 replace hm1:m1<=n:=hm1
 obtain _ | m1:=m1
 ·replace h:L98x2_1 0 l1 z2 z12 z13 z14 b15 b16 b17 b18 b19 b20 z21=some (r1,r2,r3,r4,r5,r6,r7,r8,r9,r10):=h
  rw[L98x2_1]at h
  cases h
 replace h:L98x2_1 (m1+1) l1 z2 z12 z13 z14 b15 b16 b17 b18 b19 b20 z21=some (r1,r2,r3,r4,r5,r6,r7,r8,r9,r10):=h
 rw[L98x2_1]at h
 try cbv
 refine seq_go ?_
 try cbv
 refine seq_joinB 16 [0,1,2,6,7,16] [.ext 0,.ext 1] 352 (fun m b=>m<=m1/\L98x2_2 m l1 z2 z12 z13 z14 b15 b16 b17 b18 b19 b20 z21 b=some (r1,r2,r3,r4,r5,r6,r7,r8,r9,r10)) ?_ ?_
 ·try cbv
  replace h:=lenF_inv M h
  obtain⟨z22,hz,h⟩:=h
  refine⟨z22,hz,?_⟩
  clear hz
  try cbv
  refine splitL (fun e=>?_) (fun e=>?_)
  ·replace h:=ite_t e h
   clear e
   try cbv
   refine splitL (fun e=>?_) (fun e=>?_)
   ·replace h:=ite_t e h
    clear e
    try cbv
    exact join_next (m1,true) [0,1,2,6,7,16] [.ext 0,.ext 1] 352 ⟨by omega,h⟩ (by cbv)
   replace h:=ite_f (Int.not_lt.2 e) h
   clear e
   try cbv
   exact join_next (m1,false) [0,1,2,6,7,16] [.ext 0,.ext 1] 352 ⟨by omega,h⟩ (by cbv)
  replace h:=ite_f (Int.not_lt.2 e) h
  clear e
  try cbv
  exact join_next (m1,false) [0,1,2,6,7,16] [.ext 0,.ext 1] 352 ⟨by omega,h⟩ (by cbv)
 clear h
 rintro⟨m2,b23⟩ ⟨hm2,h⟩
 try cbv
 replace hm2:m2<=m1:=hm2
 obtain _ | m2:=m2
 ·replace h:L98x2_2 0 l1 z2 z12 z13 z14 b15 b16 b17 b18 b19 b20 z21 b23=some (r1,r2,r3,r4,r5,r6,r7,r8,r9,r10):=h
  rw[L98x2_2]at h
  cases h
 replace h:L98x2_2 (m2+1) l1 z2 z12 z13 z14 b15 b16 b17 b18 b19 b20 z21 b23=some (r1,r2,r3,r4,r5,r6,r7,r8,r9,r10):=h
 rw[L98x2_2]at h
 try cbv
 cases b23
 ·replace h:=itF h
  try cbv
  refine seq_go ?_
  try cbv
  replace h:=lenF_inv M h
  obtain⟨z45,hz,h⟩:=h
  refine⟨z45,hz,?_⟩
  clear hz
  try cbv
  refine splitLe (fun e=>?_) (fun e=>?_)
  ·replace h:=ite_t e h
   clear e
   try cbv
   obtain⟨rfl,rfl,rfl,rfl,rfl,rfl,rfl,rfl,rfl,rfl⟩:=inj10 h
   refine fin_go ?_
   try cbv
   exact⟨[],rfl,rfl,⟨rfl,⟨rfl,trivial⟩⟩,trivial,trivial⟩
  replace h:=ite_f (Int.not_le.2 e) h
  clear e
  try cbv
  obtain⟨rfl,rfl,rfl,rfl,rfl,rfl,rfl,rfl,rfl,rfl⟩:=inj10 h
  refine fin_go ?_
  try cbv
  exact⟨[],rfl,rfl,⟨rfl,⟨rfl,trivial⟩⟩,trivial,trivial⟩
 replace h:=itT h
 try cbv
 refine seq_go ?_
 try cbv
 refine seq_go ?_
 try cbv
 replace h:=getF_inv h
 obtain⟨x24,⟨hx0,hx⟩,h⟩:=h
 refine⟨x24,hx0,hx,?_⟩
 clear hx0 hx
 replace h:=ds_t39_inv h
 obtain⟨z25,z26,s27,s28,s29,l30,l31,z32,rfl,h⟩:=h
 try cbv
 replace h:=bO10_inv h
 obtain⟨b33,z34,z35,b36,b37,b38,b39,b40,b41,z42,hr,h⟩:=h
 refine call_go rfl rfl ?_
 try cbv
 refine call_with hM hI [.ext 0,.ext 1] (T128x1 _ hr) rfl (by simp) ⟨rfl,⟨rfl,trivial⟩⟩ ⟨trivial,⟨trivial,trivial⟩⟩ (by simp) ?_
 clear hr
 try cbv
 replace h:=letB_inv h
 obtain⟨b43,hz,h⟩:=h
 refine⟨b43,not_eq' hz,?_⟩
 clear hz
 try cbv
 cases b43
 ·replace h:=itF h
  try cbv
  replace h:=letF_inv h
  obtain⟨z44,hz,h⟩:=h
  refine⟨z44,hz,?_⟩
  clear hz
  try cbv
  exact loop_next (m2,(z44,z34,z35,b36,b37,b38,b39,b40,b41,z42)) [0,1,2,6,7] [.ext 0,.ext 1] 64 ⟨by omega,h⟩ (Nat.lt_succ_of_le (by omega)) (by cbv)
 replace h:=itT h
 try cbv
 refine seq_go ?_
 try cbv
 obtain⟨rfl,rfl,rfl,rfl,rfl,rfl,rfl,rfl,rfl,rfl⟩:=inj10 h
 refine fin_go ?_
 try cbv
 exact⟨[],rfl,rfl,⟨rfl,⟨rfl,trivial⟩⟩,trivial,trivial⟩
def F128x2 (n:Nat) (z1:Int) (z2:Int) (s3:BA) (s4:BA) (s5:BA) (l6:LD) (l7:LD) (z8:Int) (z9:Int) (z10:Int) (b11:Bool) (b12:Bool) (b13:Bool) (b14:Bool) (b15:Bool) (b16:Bool) (z17:Int):Option (Bool×Int×Int×Bool×Bool×Bool×Bool×Bool×Bool×Int):=
 (if b16=true then letF (IntKind.wrap .i64 (z17 - 1)) fun z18=>bO1 (F54 n z1 z2 s3 s4 s5 l6 l7 z8 z18) fun b19=>some (b19,z9,z10,b11,b12,b13,b14,b15,true,z17)else bO1 (F53 n z1 z2 s3 s4 s5 l6 l7 z8) fun b20=>letB (!b20) fun b21=>(if b21=true then letF (IntKind.wrap .i64 (z17 - 1)) fun z22=>bO1 (F54 n z1 z2 s3 s4 s5 l6 l7 z8 z22) fun b23=>some (b23,z9,z10,b11,b12,b13,b14,b15,false,z17)else some (false,z9,z10,b11,b12,b13,b14,b15,false,z17)))
theorem T128x2 (n:Nat):∀⦃z1 z2 s3 s4 s5 l6 l7 z8 z9 z10 b11 b12 b13 b14 b15 b16 z17 r1 r2 r3 r4 r5 r6 r7 r8 r9 r10⦄,F128x2 n z1 z2 s3 s4 s5 l6 l7 z8 z9 z10 b11 b12 b13 b14 b15 b16 z17=some (r1,r2,r3,r4,r5,r6,r7,r8,r9,r10)->
    Trip Tryz.prog inv 128 [.d (.agg [.int .u8 z1,.int .i64 z2,.str s3,.str s4,.str s5,.list false 1 l6,.list true 8 l7,.int .i64 z8]),.c (.ptr (.ext 0) 0),.c (.ptr (.ext 1) 0)] [.cells [.d (.int .i64 z9),.d (.int .i64 z10),.d (.bool b11),.d (.bool b12),.d (.bool b13),.d (.bool b14),.d (.bool b15),.d (.bool b16),.fn 73 [],.fn 145 []],.cells [.d (.int .i64 z17)]] (.v (.d (.bool r1))) [.cells [.d (.int .i64 r2),.d (.int .i64 r3),.d (.bool r4),.d (.bool r5),.d (.bool r6),.d (.bool r7),.d (.bool r8),.d (.bool r9),.fn 73 [],.fn 145 []],.cells [.d (.int .i64 r10)]] []:=by
 intro z1 z2 s3 s4 s5 l6 l7 z8 z9 z10 b11 b12 b13 b14 b15 b16 z17 r1 r2 r3 r4 r5 r6 r7 r8 r9 r10 h
 unfold F128x2 at h
 refine Trip.of tab_ok tab_one fol Tryz.func128 rfl (by kernel_rfl) rfl rfl rfl (fun M hM hI=>?_)
 try cbv
 refine seq_go ?_
 try cbv
 refine seq_go ?_
 try cbv
 cases b16
 rotate_left
 ·replace h:=itT h
  try cbv
  replace h:=letF_inv h
  obtain⟨z18,hz,h⟩:=h
  refine⟨z18,hz,?_⟩
  clear hz
  try cbv
  replace h:=bO1_inv h
  obtain⟨b19,hr,h⟩:=h
  refine call_go rfl rfl ?_
  try cbv
  refine call_pure hM hI (T54 _ hr) rfl ?_
  clear hr
  try cbv
  obtain⟨rfl,rfl,rfl,rfl,rfl,rfl,rfl,rfl,rfl,rfl⟩:=inj10 h
  refine fin_go ?_
  try cbv
  exact⟨[],rfl,rfl,⟨rfl,⟨rfl,trivial⟩⟩,trivial,trivial⟩
 replace h:=itF h
 try cbv
 replace h:=bO1_inv h
 obtain⟨b20,hr,h⟩:=h
 refine call_go rfl rfl ?_
 try cbv
 refine call_pure hM hI (T53 _ hr) rfl ?_
 clear hr
 try cbv
 replace h:=letB_inv h
 obtain⟨b21,hz,h⟩:=h
 refine⟨b21,not_eq' hz,?_⟩
 clear hz
 try cbv
 cases b21
 ·replace h:=itF h
  try cbv
  obtain⟨rfl,rfl,rfl,rfl,rfl,rfl,rfl,rfl,rfl,rfl⟩:=inj10 h
  refine fin_go ?_
  try cbv
  exact⟨[],rfl,rfl,⟨rfl,⟨rfl,trivial⟩⟩,trivial,trivial⟩
 replace h:=itT h
 try cbv
 replace h:=letF_inv h
 obtain⟨z22,hz,h⟩:=h
 refine⟨z22,hz,?_⟩
 clear hz
 try cbv
 replace h:=bO1_inv h
 obtain⟨b23,hr,h⟩:=h
 refine call_go rfl rfl ?_
 try cbv
 refine call_pure hM hI (T54 _ hr) rfl ?_
 clear hr
 try cbv
 obtain⟨rfl,rfl,rfl,rfl,rfl,rfl,rfl,rfl,rfl,rfl⟩:=inj10 h
 refine fin_go ?_
 try cbv
 exact⟨[],rfl,rfl,⟨rfl,⟨rfl,trivial⟩⟩,trivial,trivial⟩
mutual
def L98x3_1:Nat->LD->Int->Int->Int->Int->Bool->Bool->Bool->Bool->Bool->Bool->Int->Option (Bool×Int×Int×Bool×Bool×Bool×Bool×Bool×Bool×Int)
 | 0,_,_,_,_,_,_,_,_,_,_,_,_=>none
 | n+1,l1,z2,z12,z13,z14,b15,b16,b17,b18,b19,b20,z21=>
  lenF l1 fun z22=>(if z12<z22 then (if z12<z2 then L98x3_2 n l1 z2 z12 z13 z14 b15 b16 b17 b18 b19 b20 z21 true else L98x3_2 n l1 z2 z12 z13 z14 b15 b16 b17 b18 b19 b20 z21 false)else L98x3_2 n l1 z2 z12 z13 z14 b15 b16 b17 b18 b19 b20 z21 false)
def L98x3_2:Nat->LD->Int->Int->Int->Int->Bool->Bool->Bool->Bool->Bool->Bool->Int->Bool->Option (Bool×Int×Int×Bool×Bool×Bool×Bool×Bool×Bool×Int)
 | 0,_,_,_,_,_,_,_,_,_,_,_,_,_=>none
 | n+1,l1,z2,z12,z13,z14,b15,b16,b17,b18,b19,b20,z21,b23=>
  (if b23=true then getF l1 z12 fun x24=>ds_t39 x24 fun z25 z26 s27 s28 s29 l30 l31 z32=>bO10 (F128x2 n z25 z26 s27 s28 s29 l30 l31 z32 z13 z14 b15 b16 b17 b18 b19 b20 z21) fun b33 z34 z35 b36 b37 b38 b39 b40 b41 z42=>letB (!b33) fun b43=>(if b43=true then some (false,z34,z35,b36,b37,b38,b39,b40,b41,z42)else letF (IntKind.wrap .i64 (z12+1)) fun z44=>L98x3_1 n l1 z2 z44 z34 z35 b36 b37 b38 b39 b40 b41 z42)else lenF l1 fun z45=>(if z45<=z2 then some (true,z13,z14,b15,b16,b17,b18,b19,b20,z21)else some (false,z13,z14,b15,b16,b17,b18,b19,b20,z21)))
end
def F98x3 (n:Nat) (l1:LD) (z2:Int) (z3:Int) (z4:Int) (b5:Bool) (b6:Bool) (b7:Bool) (b8:Bool) (b9:Bool) (b10:Bool) (z11:Int):Option (Bool×Int×Int×Bool×Bool×Bool×Bool×Bool×Bool×Int):=
 L98x3_1 n l1 z2 (0:Int) z3 z4 b5 b6 b7 b8 b9 b10 z11
theorem T98x3 (n:Nat):∀⦃l1 z2 z3 z4 b5 b6 b7 b8 b9 b10 z11 r1 r2 r3 r4 r5 r6 r7 r8 r9 r10⦄,F98x3 n l1 z2 z3 z4 b5 b6 b7 b8 b9 b10 z11=some (r1,r2,r3,r4,r5,r6,r7,r8,r9,r10)->
    Trip Tryz.prog inv 98 [.d (.list true 8 l1),.d (.int .i64 z2),.c (.fn 128 [.ext 0,.ext 1])] [.cells [.d (.int .i64 z3),.d (.int .i64 z4),.d (.bool b5),.d (.bool b6),.d (.bool b7),.d (.bool b8),.d (.bool b9),.d (.bool b10),.fn 73 [],.fn 145 []],.cells [.d (.int .i64 z11)]] (.v (.d (.bool r1))) [.cells [.d (.int .i64 r2),.d (.int .i64 r3),.d (.bool r4),.d (.bool r5),.d (.bool r6),.d (.bool r7),.d (.bool r8),.d (.bool r9),.fn 73 [],.fn 145 []],.cells [.d (.int .i64 r10)]] []:=by
 intro l1 z2 z3 z4 b5 b6 b7 b8 b9 b10 z11 r1 r2 r3 r4 r5 r6 r7 r8 r9 r10 h
 unfold F98x3 at h
 refine Trip.of tab_ok tab_one fol Tryz.func98 rfl (by kernel_rfl) rfl rfl rfl (fun M hM hI=>?_)
 try cbv
 refine seq_go ?_
 try cbv
 refine seq_go ?_
 try cbv
 refine seq_go ?_
 try cbv
 refine loop_inv (T:=Nat×Int×Int×Int×Bool×Bool×Bool×Bool×Bool×Bool×Int) [0,1,2,6,7] [.ext 0,.ext 1] 64 (fun t=>⟨[sT 0 8 l1,sI 1 z2,(2,.v (.c (.fn 128 [.ext 0,.ext 1]))),sB 6 false,sI 7 t.2.1],[(.ext 0,.cells [.d (.int .i64 t.2.2.1),.d (.int .i64 t.2.2.2.1),.d (.bool t.2.2.2.2.1),.d (.bool t.2.2.2.2.2.1),.d (.bool t.2.2.2.2.2.2.1),.d (.bool t.2.2.2.2.2.2.2.1),.d (.bool t.2.2.2.2.2.2.2.2.1),.d (.bool t.2.2.2.2.2.2.2.2.2.1),.fn 73 [],.fn 145 []]),(.ext 1,.cells [.d (.int .i64 t.2.2.2.2.2.2.2.2.2.2)])],64⟩)
   (fun t=>t.1<=n/\L98x3_1 t.1 l1 z2 t.2.1 t.2.2.1 t.2.2.2.1 t.2.2.2.2.1 t.2.2.2.2.2.1 t.2.2.2.2.2.2.1 t.2.2.2.2.2.2.2.1 t.2.2.2.2.2.2.2.2.1 t.2.2.2.2.2.2.2.2.2.1 t.2.2.2.2.2.2.2.2.2.2=some (r1,r2,r3,r4,r5,r6,r7,r8,r9,r10)) (fun t=>t.1) (n,((0:Int),z3,z4,b5,b6,b7,b8,b9,b10,z11)) ⟨Nat.le_refl _,h⟩ (by cbv) ?_
 clear h
 rintro⟨m1,z12,z13,z14,b15,b16,b17,b18,b19,b20,z21⟩ ⟨hm1,h⟩
 replace hm1:m1<=n:=hm1
 obtain _ | m1:=m1
 ·replace h:L98x3_1 0 l1 z2 z12 z13 z14 b15 b16 b17 b18 b19 b20 z21=some (r1,r2,r3,r4,r5,r6,r7,r8,r9,r10):=h
  rw[L98x3_1]at h
  cases h
 replace h:L98x3_1 (m1+1) l1 z2 z12 z13 z14 b15 b16 b17 b18 b19 b20 z21=some (r1,r2,r3,r4,r5,r6,r7,r8,r9,r10):=h
 rw[L98x3_1]at h
 try cbv
 refine seq_go ?_
 try cbv
 refine seq_joinB 16 [0,1,2,6,7,16] [.ext 0,.ext 1] 352 (fun m b=>m<=m1/\L98x3_2 m l1 z2 z12 z13 z14 b15 b16 b17 b18 b19 b20 z21 b=some (r1,r2,r3,r4,r5,r6,r7,r8,r9,r10)) ?_ ?_
 ·try cbv
  replace h:=lenF_inv M h
  obtain⟨z22,hz,h⟩:=h
  refine⟨z22,hz,?_⟩
  clear hz
  try cbv
  refine splitL (fun e=>?_) (fun e=>?_)
  ·replace h:=ite_t e h
   clear e
   try cbv
   refine splitL (fun e=>?_) (fun e=>?_)
   ·replace h:=ite_t e h
    clear e
    try cbv
    exact join_next (m1,true) [0,1,2,6,7,16] [.ext 0,.ext 1] 352 ⟨by omega,h⟩ (by cbv)
   replace h:=ite_f (Int.not_lt.2 e) h
   clear e
   try cbv
   exact join_next (m1,false) [0,1,2,6,7,16] [.ext 0,.ext 1] 352 ⟨by omega,h⟩ (by cbv)
  replace h:=ite_f (Int.not_lt.2 e) h
  clear e
  try cbv
  exact join_next (m1,false) [0,1,2,6,7,16] [.ext 0,.ext 1] 352 ⟨by omega,h⟩ (by cbv)
 clear h
 rintro⟨m2,b23⟩ ⟨hm2,h⟩
 try cbv
 replace hm2:m2<=m1:=hm2
 obtain _ | m2:=m2
 ·replace h:L98x3_2 0 l1 z2 z12 z13 z14 b15 b16 b17 b18 b19 b20 z21 b23=some (r1,r2,r3,r4,r5,r6,r7,r8,r9,r10):=h
  rw[L98x3_2]at h
  cases h
 replace h:L98x3_2 (m2+1) l1 z2 z12 z13 z14 b15 b16 b17 b18 b19 b20 z21 b23=some (r1,r2,r3,r4,r5,r6,r7,r8,r9,r10):=h
 rw[L98x3_2]at h
 try cbv
 cases b23
 ·replace h:=itF h
  try cbv
  refine seq_go ?_
  try cbv
  replace h:=lenF_inv M h
  obtain⟨z45,hz,h⟩:=h
  refine⟨z45,hz,?_⟩
  clear hz
  try cbv
  refine splitLe (fun e=>?_) (fun e=>?_)
  ·replace h:=ite_t e h
   clear e
   try cbv
   obtain⟨rfl,rfl,rfl,rfl,rfl,rfl,rfl,rfl,rfl,rfl⟩:=inj10 h
   refine fin_go ?_
   try cbv
   exact⟨[],rfl,rfl,⟨rfl,⟨rfl,trivial⟩⟩,trivial,trivial⟩
  replace h:=ite_f (Int.not_le.2 e) h
  clear e
  try cbv
  obtain⟨rfl,rfl,rfl,rfl,rfl,rfl,rfl,rfl,rfl,rfl⟩:=inj10 h
  refine fin_go ?_
  try cbv
  exact⟨[],rfl,rfl,⟨rfl,⟨rfl,trivial⟩⟩,trivial,trivial⟩
 replace h:=itT h
 try cbv
 refine seq_go ?_
 try cbv
 refine seq_go ?_
 try cbv
 replace h:=getF_inv h
 obtain⟨x24,⟨hx0,hx⟩,h⟩:=h
 refine⟨x24,hx0,hx,?_⟩
 clear hx0 hx
 replace h:=ds_t39_inv h
 obtain⟨z25,z26,s27,s28,s29,l30,l31,z32,rfl,h⟩:=h
 try cbv
 replace h:=bO10_inv h
 obtain⟨b33,z34,z35,b36,b37,b38,b39,b40,b41,z42,hr,h⟩:=h
 refine call_go rfl rfl ?_
 try cbv
 refine call_with hM hI [.ext 0,.ext 1] (T128x2 _ hr) rfl (by simp) ⟨rfl,⟨rfl,trivial⟩⟩ ⟨trivial,⟨trivial,trivial⟩⟩ (by simp) ?_
 clear hr
 try cbv
 replace h:=letB_inv h
 obtain⟨b43,hz,h⟩:=h
 refine⟨b43,not_eq' hz,?_⟩
 clear hz
 try cbv
 cases b43
 ·replace h:=itF h
  try cbv
  replace h:=letF_inv h
  obtain⟨z44,hz,h⟩:=h
  refine⟨z44,hz,?_⟩
  clear hz
  try cbv
  exact loop_next (m2,(z44,z34,z35,b36,b37,b38,b39,b40,b41,z42)) [0,1,2,6,7] [.ext 0,.ext 1] 64 ⟨by omega,h⟩ (Nat.lt_succ_of_le (by omega)) (by cbv)
 replace h:=itT h
 try cbv
 refine seq_go ?_
 try cbv
 obtain⟨rfl,rfl,rfl,rfl,rfl,rfl,rfl,rfl,rfl,rfl⟩:=inj10 h
 refine fin_go ?_
 try cbv
 exact⟨[],rfl,rfl,⟨rfl,⟨rfl,trivial⟩⟩,trivial,trivial⟩
def F128x3 (n:Nat) (z1:Int) (z2:Int) (s3:BA) (s4:BA) (s5:BA) (l6:LD) (l7:LD) (z8:Int) (z9:Int) (z10:Int) (b11:Bool) (b12:Bool) (b13:Bool) (b14:Bool) (b15:Bool) (b16:Bool) (z17:Int):Option (Bool×Int×Int×Bool×Bool×Bool×Bool×Bool×Bool×Int):=
 (if b16=true then letF (IntKind.wrap .i64 (z17 - 1)) fun z18=>bO1 (F54 n z1 z2 s3 s4 s5 l6 l7 z8 z18) fun b19=>some (b19,z9,z10,b11,b12,b13,b14,b15,true,z17)else bO1 (F53 n z1 z2 s3 s4 s5 l6 l7 z8) fun b20=>letB (!b20) fun b21=>(if b21=true then letF (IntKind.wrap .i64 (z17 - 1)) fun z22=>bO1 (F54 n z1 z2 s3 s4 s5 l6 l7 z8 z22) fun b23=>some (b23,z9,z10,b11,b12,b13,b14,b15,false,z17)else some (false,z9,z10,b11,b12,b13,b14,b15,false,z17)))
theorem T128x3 (n:Nat):∀⦃z1 z2 s3 s4 s5 l6 l7 z8 z9 z10 b11 b12 b13 b14 b15 b16 z17 r1 r2 r3 r4 r5 r6 r7 r8 r9 r10⦄,F128x3 n z1 z2 s3 s4 s5 l6 l7 z8 z9 z10 b11 b12 b13 b14 b15 b16 z17=some (r1,r2,r3,r4,r5,r6,r7,r8,r9,r10)->
    Trip Tryz.prog inv 128 [.d (.agg [.int .u8 z1,.int .i64 z2,.str s3,.str s4,.str s5,.list false 1 l6,.list true 8 l7,.int .i64 z8]),.c (.ptr (.ext 0) 0),.c (.ptr (.ext 1) 0)] [.cells [.d (.int .i64 z9),.d (.int .i64 z10),.d (.bool b11),.d (.bool b12),.d (.bool b13),.d (.bool b14),.d (.bool b15),.d (.bool b16),.fn 74 [],.fn 73 []],.cells [.d (.int .i64 z17)]] (.v (.d (.bool r1))) [.cells [.d (.int .i64 r2),.d (.int .i64 r3),.d (.bool r4),.d (.bool r5),.d (.bool r6),.d (.bool r7),.d (.bool r8),.d (.bool r9),.fn 74 [],.fn 73 []],.cells [.d (.int .i64 r10)]] []:=by
 intro z1 z2 s3 s4 s5 l6 l7 z8 z9 z10 b11 b12 b13 b14 b15 b16 z17 r1 r2 r3 r4 r5 r6 r7 r8 r9 r10 h
 unfold F128x3 at h
 refine Trip.of tab_ok tab_one fol Tryz.func128 rfl (by kernel_rfl) rfl rfl rfl (fun M hM hI=>?_)
 try cbv
 refine seq_go ?_
 try cbv
 refine seq_go ?_
 try cbv
 cases b16
 rotate_left
 ·replace h:=itT h
  try cbv
  replace h:=letF_inv h
  obtain⟨z18,hz,h⟩:=h
  refine⟨z18,hz,?_⟩
  clear hz
  try cbv
  replace h:=bO1_inv h
  obtain⟨b19,hr,h⟩:=h
  refine call_go rfl rfl ?_
  try cbv
  refine call_pure hM hI (T54 _ hr) rfl ?_
  clear hr
  try cbv
  obtain⟨rfl,rfl,rfl,rfl,rfl,rfl,rfl,rfl,rfl,rfl⟩:=inj10 h
  refine fin_go ?_
  try cbv
  exact⟨[],rfl,rfl,⟨rfl,⟨rfl,trivial⟩⟩,trivial,trivial⟩
 replace h:=itF h
 try cbv
 replace h:=bO1_inv h
 obtain⟨b20,hr,h⟩:=h
 refine call_go rfl rfl ?_
 try cbv
 refine call_pure hM hI (T53 _ hr) rfl ?_
 clear hr
 try cbv
 replace h:=letB_inv h
 obtain⟨b21,hz,h⟩:=h
 refine⟨b21,not_eq' hz,?_⟩
 clear hz
 try cbv
 cases b21
 ·replace h:=itF h
  try cbv
  obtain⟨rfl,rfl,rfl,rfl,rfl,rfl,rfl,rfl,rfl,rfl⟩:=inj10 h
  refine fin_go ?_
  try cbv
  exact⟨[],rfl,rfl,⟨rfl,⟨rfl,trivial⟩⟩,trivial,trivial⟩
 replace h:=itT h
 try cbv
 replace h:=letF_inv h
 obtain⟨z22,hz,h⟩:=h
 refine⟨z22,hz,?_⟩
 clear hz
 try cbv
 replace h:=bO1_inv h
 obtain⟨b23,hr,h⟩:=h
 refine call_go rfl rfl ?_
 try cbv
 refine call_pure hM hI (T54 _ hr) rfl ?_
 clear hr
 try cbv
 obtain⟨rfl,rfl,rfl,rfl,rfl,rfl,rfl,rfl,rfl,rfl⟩:=inj10 h
 refine fin_go ?_
 try cbv
 exact⟨[],rfl,rfl,⟨rfl,⟨rfl,trivial⟩⟩,trivial,trivial⟩
mutual
def L98x4_1:Nat->LD->Int->Int->Int->Int->Bool->Bool->Bool->Bool->Bool->Bool->Int->Option (Bool×Int×Int×Bool×Bool×Bool×Bool×Bool×Bool×Int)
 | 0,_,_,_,_,_,_,_,_,_,_,_,_=>none
 | n+1,l1,z2,z12,z13,z14,b15,b16,b17,b18,b19,b20,z21=>
  lenF l1 fun z22=>(if z12<z22 then (if z12<z2 then L98x4_2 n l1 z2 z12 z13 z14 b15 b16 b17 b18 b19 b20 z21 true else L98x4_2 n l1 z2 z12 z13 z14 b15 b16 b17 b18 b19 b20 z21 false)else L98x4_2 n l1 z2 z12 z13 z14 b15 b16 b17 b18 b19 b20 z21 false)
def L98x4_2:Nat->LD->Int->Int->Int->Int->Bool->Bool->Bool->Bool->Bool->Bool->Int->Bool->Option (Bool×Int×Int×Bool×Bool×Bool×Bool×Bool×Bool×Int)
 | 0,_,_,_,_,_,_,_,_,_,_,_,_,_=>none
 | n+1,l1,z2,z12,z13,z14,b15,b16,b17,b18,b19,b20,z21,b23=>
  (if b23=true then getF l1 z12 fun x24=>ds_t39 x24 fun z25 z26 s27 s28 s29 l30 l31 z32=>bO10 (F128x3 n z25 z26 s27 s28 s29 l30 l31 z32 z13 z14 b15 b16 b17 b18 b19 b20 z21) fun b33 z34 z35 b36 b37 b38 b39 b40 b41 z42=>letB (!b33) fun b43=>(if b43=true then some (false,z34,z35,b36,b37,b38,b39,b40,b41,z42)else letF (IntKind.wrap .i64 (z12+1)) fun z44=>L98x4_1 n l1 z2 z44 z34 z35 b36 b37 b38 b39 b40 b41 z42)else lenF l1 fun z45=>(if z45<=z2 then some (true,z13,z14,b15,b16,b17,b18,b19,b20,z21)else some (false,z13,z14,b15,b16,b17,b18,b19,b20,z21)))
end
def F98x4 (n:Nat) (l1:LD) (z2:Int) (z3:Int) (z4:Int) (b5:Bool) (b6:Bool) (b7:Bool) (b8:Bool) (b9:Bool) (b10:Bool) (z11:Int):Option (Bool×Int×Int×Bool×Bool×Bool×Bool×Bool×Bool×Int):=
 L98x4_1 n l1 z2 (0:Int) z3 z4 b5 b6 b7 b8 b9 b10 z11
theorem T98x4 (n:Nat):∀⦃l1 z2 z3 z4 b5 b6 b7 b8 b9 b10 z11 r1 r2 r3 r4 r5 r6 r7 r8 r9 r10⦄,F98x4 n l1 z2 z3 z4 b5 b6 b7 b8 b9 b10 z11=some (r1,r2,r3,r4,r5,r6,r7,r8,r9,r10)->
    Trip Tryz.prog inv 98 [.d (.list true 8 l1),.d (.int .i64 z2),.c (.fn 128 [.ext 0,.ext 1])] [.cells [.d (.int .i64 z3),.d (.int .i64 z4),.d (.bool b5),.d (.bool b6),.d (.bool b7),.d (.bool b8),.d (.bool b9),.d (.bool b10),.fn 74 [],.fn 73 []],.cells [.d (.int .i64 z11)]] (.v (.d (.bool r1))) [.cells [.d (.int .i64 r2),.d (.int .i64 r3),.d (.bool r4),.d (.bool r5),.d (.bool r6),.d (.bool r7),.d (.bool r8),.d (.bool r9),.fn 74 [],.fn 73 []],.cells [.d (.int .i64 r10)]] []:=by
 intro l1 z2 z3 z4 b5 b6 b7 b8 b9 b10 z11 r1 r2 r3 r4 r5 r6 r7 r8 r9 r10 h
 unfold F98x4 at h
 refine Trip.of tab_ok tab_one fol Tryz.func98 rfl (by kernel_rfl) rfl rfl rfl (fun M hM hI=>?_)
 try cbv
 refine seq_go ?_
 try cbv
 refine seq_go ?_
 try cbv
 refine seq_go ?_
 try cbv
 refine loop_inv (T:=Nat×Int×Int×Int×Bool×Bool×Bool×Bool×Bool×Bool×Int) [0,1,2,6,7] [.ext 0,.ext 1] 64 (fun t=>⟨[sT 0 8 l1,sI 1 z2,(2,.v (.c (.fn 128 [.ext 0,.ext 1]))),sB 6 false,sI 7 t.2.1],[(.ext 0,.cells [.d (.int .i64 t.2.2.1),.d (.int .i64 t.2.2.2.1),.d (.bool t.2.2.2.2.1),.d (.bool t.2.2.2.2.2.1),.d (.bool t.2.2.2.2.2.2.1),.d (.bool t.2.2.2.2.2.2.2.1),.d (.bool t.2.2.2.2.2.2.2.2.1),.d (.bool t.2.2.2.2.2.2.2.2.2.1),.fn 74 [],.fn 73 []]),(.ext 1,.cells [.d (.int .i64 t.2.2.2.2.2.2.2.2.2.2)])],64⟩)
   (fun t=>t.1<=n/\L98x4_1 t.1 l1 z2 t.2.1 t.2.2.1 t.2.2.2.1 t.2.2.2.2.1 t.2.2.2.2.2.1 t.2.2.2.2.2.2.1 t.2.2.2.2.2.2.2.1 t.2.2.2.2.2.2.2.2.1 t.2.2.2.2.2.2.2.2.2.1 t.2.2.2.2.2.2.2.2.2.2=some (r1,r2,r3,r4,r5,r6,r7,r8,r9,r10)) (fun t=>t.1) (n,((0:Int),z3,z4,b5,b6,b7,b8,b9,b10,z11)) ⟨Nat.le_refl _,h⟩ (by cbv) ?_
 clear h
 rintro⟨m1,z12,z13,z14,b15,b16,b17,b18,b19,b20,z21⟩ ⟨hm1,h⟩
 replace hm1:m1<=n:=hm1
 obtain _ | m1:=m1
 ·replace h:L98x4_1 0 l1 z2 z12 z13 z14 b15 b16 b17 b18 b19 b20 z21=some (r1,r2,r3,r4,r5,r6,r7,r8,r9,r10):=h
  rw[L98x4_1]at h
  cases h
 replace h:L98x4_1 (m1+1) l1 z2 z12 z13 z14 b15 b16 b17 b18 b19 b20 z21=some (r1,r2,r3,r4,r5,r6,r7,r8,r9,r10):=h
 rw[L98x4_1]at h
 try cbv
 refine seq_go ?_
 try cbv
 refine seq_joinB 16 [0,1,2,6,7,16] [.ext 0,.ext 1] 352 (fun m b=>m<=m1/\L98x4_2 m l1 z2 z12 z13 z14 b15 b16 b17 b18 b19 b20 z21 b=some (r1,r2,r3,r4,r5,r6,r7,r8,r9,r10)) ?_ ?_
 ·try cbv
  replace h:=lenF_inv M h
  obtain⟨z22,hz,h⟩:=h
  refine⟨z22,hz,?_⟩
  clear hz
  try cbv
  refine splitL (fun e=>?_) (fun e=>?_)
  ·replace h:=ite_t e h
   clear e
   try cbv
   refine splitL (fun e=>?_) (fun e=>?_)
   ·replace h:=ite_t e h
    clear e
    try cbv
    exact join_next (m1,true) [0,1,2,6,7,16] [.ext 0,.ext 1] 352 ⟨by omega,h⟩ (by cbv)
   replace h:=ite_f (Int.not_lt.2 e) h
   clear e
   try cbv
   exact join_next (m1,false) [0,1,2,6,7,16] [.ext 0,.ext 1] 352 ⟨by omega,h⟩ (by cbv)
  replace h:=ite_f (Int.not_lt.2 e) h
  clear e
  try cbv
  exact join_next (m1,false) [0,1,2,6,7,16] [.ext 0,.ext 1] 352 ⟨by omega,h⟩ (by cbv)
 clear h
 rintro⟨m2,b23⟩ ⟨hm2,h⟩
 try cbv
 replace hm2:m2<=m1:=hm2
 obtain _ | m2:=m2
 ·replace h:L98x4_2 0 l1 z2 z12 z13 z14 b15 b16 b17 b18 b19 b20 z21 b23=some (r1,r2,r3,r4,r5,r6,r7,r8,r9,r10):=h
  rw[L98x4_2]at h
  cases h
 replace h:L98x4_2 (m2+1) l1 z2 z12 z13 z14 b15 b16 b17 b18 b19 b20 z21 b23=some (r1,r2,r3,r4,r5,r6,r7,r8,r9,r10):=h
 rw[L98x4_2]at h
 try cbv
 cases b23
 ·replace h:=itF h
  try cbv
  refine seq_go ?_
  try cbv
  replace h:=lenF_inv M h
  obtain⟨z45,hz,h⟩:=h
  refine⟨z45,hz,?_⟩
  clear hz
  try cbv
  refine splitLe (fun e=>?_) (fun e=>?_)
  ·replace h:=ite_t e h
   clear e
   try cbv
   obtain⟨rfl,rfl,rfl,rfl,rfl,rfl,rfl,rfl,rfl,rfl⟩:=inj10 h
   refine fin_go ?_
   try cbv
   exact⟨[],rfl,rfl,⟨rfl,⟨rfl,trivial⟩⟩,trivial,trivial⟩
  replace h:=ite_f (Int.not_le.2 e) h
  clear e
  try cbv
  obtain⟨rfl,rfl,rfl,rfl,rfl,rfl,rfl,rfl,rfl,rfl⟩:=inj10 h
  refine fin_go ?_
  try cbv
  exact⟨[],rfl,rfl,⟨rfl,⟨rfl,trivial⟩⟩,trivial,trivial⟩
 replace h:=itT h
 try cbv
 refine seq_go ?_
 try cbv
 refine seq_go ?_
 try cbv
 replace h:=getF_inv h
 obtain⟨x24,⟨hx0,hx⟩,h⟩:=h
 refine⟨x24,hx0,hx,?_⟩
 clear hx0 hx
 replace h:=ds_t39_inv h
 obtain⟨z25,z26,s27,s28,s29,l30,l31,z32,rfl,h⟩:=h
 try cbv
 replace h:=bO10_inv h
 obtain⟨b33,z34,z35,b36,b37,b38,b39,b40,b41,z42,hr,h⟩:=h
 refine call_go rfl rfl ?_
 try cbv
 refine call_with hM hI [.ext 0,.ext 1] (T128x3 _ hr) rfl (by simp) ⟨rfl,⟨rfl,trivial⟩⟩ ⟨trivial,⟨trivial,trivial⟩⟩ (by simp) ?_
 clear hr
 try cbv
 replace h:=letB_inv h
 obtain⟨b43,hz,h⟩:=h
 refine⟨b43,not_eq' hz,?_⟩
 clear hz
 try cbv
 cases b43
 ·replace h:=itF h
  try cbv
  replace h:=letF_inv h
  obtain⟨z44,hz,h⟩:=h
  refine⟨z44,hz,?_⟩
  clear hz
  try cbv
  exact loop_next (m2,(z44,z34,z35,b36,b37,b38,b39,b40,b41,z42)) [0,1,2,6,7] [.ext 0,.ext 1] 64 ⟨by omega,h⟩ (Nat.lt_succ_of_le (by omega)) (by cbv)
 replace h:=itT h
 try cbv
 refine seq_go ?_
 try cbv
 obtain⟨rfl,rfl,rfl,rfl,rfl,rfl,rfl,rfl,rfl,rfl⟩:=inj10 h
 refine fin_go ?_
 try cbv
 exact⟨[],rfl,rfl,⟨rfl,⟨rfl,trivial⟩⟩,trivial,trivial⟩
def F128x4 (n:Nat) (z1:Int) (z2:Int) (s3:BA) (s4:BA) (s5:BA) (l6:LD) (l7:LD) (z8:Int) (z9:Int) (z10:Int) (b11:Bool) (b12:Bool) (b13:Bool) (b14:Bool) (b15:Bool) (b16:Bool) (z17:Int):Option (Bool×Int×Int×Bool×Bool×Bool×Bool×Bool×Bool×Int):=
 (if b16=true then letF (IntKind.wrap .i64 (z17 - 1)) fun z18=>bO1 (F54 n z1 z2 s3 s4 s5 l6 l7 z8 z18) fun b19=>some (b19,z9,z10,b11,b12,b13,b14,b15,true,z17)else bO1 (F53 n z1 z2 s3 s4 s5 l6 l7 z8) fun b20=>letB (!b20) fun b21=>(if b21=true then letF (IntKind.wrap .i64 (z17 - 1)) fun z22=>bO1 (F54 n z1 z2 s3 s4 s5 l6 l7 z8 z22) fun b23=>some (b23,z9,z10,b11,b12,b13,b14,b15,false,z17)else some (false,z9,z10,b11,b12,b13,b14,b15,false,z17)))
theorem T128x4 (n:Nat):∀⦃z1 z2 s3 s4 s5 l6 l7 z8 z9 z10 b11 b12 b13 b14 b15 b16 z17 r1 r2 r3 r4 r5 r6 r7 r8 r9 r10⦄,F128x4 n z1 z2 s3 s4 s5 l6 l7 z8 z9 z10 b11 b12 b13 b14 b15 b16 z17=some (r1,r2,r3,r4,r5,r6,r7,r8,r9,r10)->
    Trip Tryz.prog inv 128 [.d (.agg [.int .u8 z1,.int .i64 z2,.str s3,.str s4,.str s5,.list false 1 l6,.list true 8 l7,.int .i64 z8]),.c (.ptr (.ext 0) 0),.c (.ptr (.ext 1) 0)] [.cells [.d (.int .i64 z9),.d (.int .i64 z10),.d (.bool b11),.d (.bool b12),.d (.bool b13),.d (.bool b14),.d (.bool b15),.d (.bool b16),.fn 74 [],.fn 74 []],.cells [.d (.int .i64 z17)]] (.v (.d (.bool r1))) [.cells [.d (.int .i64 r2),.d (.int .i64 r3),.d (.bool r4),.d (.bool r5),.d (.bool r6),.d (.bool r7),.d (.bool r8),.d (.bool r9),.fn 74 [],.fn 74 []],.cells [.d (.int .i64 r10)]] []:=by
 intro z1 z2 s3 s4 s5 l6 l7 z8 z9 z10 b11 b12 b13 b14 b15 b16 z17 r1 r2 r3 r4 r5 r6 r7 r8 r9 r10 h
 unfold F128x4 at h
 refine Trip.of tab_ok tab_one fol Tryz.func128 rfl (by kernel_rfl) rfl rfl rfl (fun M hM hI=>?_)
 try cbv
 refine seq_go ?_
 try cbv
 refine seq_go ?_
 try cbv
 cases b16
 rotate_left
 ·replace h:=itT h
  try cbv
  replace h:=letF_inv h
  obtain⟨z18,hz,h⟩:=h
  refine⟨z18,hz,?_⟩
  clear hz
  try cbv
  replace h:=bO1_inv h
  obtain⟨b19,hr,h⟩:=h
  refine call_go rfl rfl ?_
  try cbv
  refine call_pure hM hI (T54 _ hr) rfl ?_
  clear hr
  try cbv
  obtain⟨rfl,rfl,rfl,rfl,rfl,rfl,rfl,rfl,rfl,rfl⟩:=inj10 h
  refine fin_go ?_
  try cbv
  exact⟨[],rfl,rfl,⟨rfl,⟨rfl,trivial⟩⟩,trivial,trivial⟩
 replace h:=itF h
 try cbv
 replace h:=bO1_inv h
 obtain⟨b20,hr,h⟩:=h
 refine call_go rfl rfl ?_
 try cbv
 refine call_pure hM hI (T53 _ hr) rfl ?_
 clear hr
 try cbv
 replace h:=letB_inv h
 obtain⟨b21,hz,h⟩:=h
 refine⟨b21,not_eq' hz,?_⟩
 clear hz
 try cbv
 cases b21
 ·replace h:=itF h
  try cbv
  obtain⟨rfl,rfl,rfl,rfl,rfl,rfl,rfl,rfl,rfl,rfl⟩:=inj10 h
  refine fin_go ?_
  try cbv
  exact⟨[],rfl,rfl,⟨rfl,⟨rfl,trivial⟩⟩,trivial,trivial⟩
 replace h:=itT h
 try cbv
 replace h:=letF_inv h
 obtain⟨z22,hz,h⟩:=h
 refine⟨z22,hz,?_⟩
 clear hz
 try cbv
 replace h:=bO1_inv h
 obtain⟨b23,hr,h⟩:=h
 refine call_go rfl rfl ?_
 try cbv
 refine call_pure hM hI (T54 _ hr) rfl ?_
 clear hr
 try cbv
 obtain⟨rfl,rfl,rfl,rfl,rfl,rfl,rfl,rfl,rfl,rfl⟩:=inj10 h
 refine fin_go ?_
 try cbv
 exact⟨[],rfl,rfl,⟨rfl,⟨rfl,trivial⟩⟩,trivial,trivial⟩
mutual
def L98x5_1:Nat->LD->Int->Int->Int->Int->Bool->Bool->Bool->Bool->Bool->Bool->Int->Option (Bool×Int×Int×Bool×Bool×Bool×Bool×Bool×Bool×Int)
 | 0,_,_,_,_,_,_,_,_,_,_,_,_=>none
 | n+1,l1,z2,z12,z13,z14,b15,b16,b17,b18,b19,b20,z21=>
  lenF l1 fun z22=>(if z12<z22 then (if z12<z2 then L98x5_2 n l1 z2 z12 z13 z14 b15 b16 b17 b18 b19 b20 z21 true else L98x5_2 n l1 z2 z12 z13 z14 b15 b16 b17 b18 b19 b20 z21 false)else L98x5_2 n l1 z2 z12 z13 z14 b15 b16 b17 b18 b19 b20 z21 false)
def L98x5_2:Nat->LD->Int->Int->Int->Int->Bool->Bool->Bool->Bool->Bool->Bool->Int->Bool->Option (Bool×Int×Int×Bool×Bool×Bool×Bool×Bool×Bool×Int)
 | 0,_,_,_,_,_,_,_,_,_,_,_,_,_=>none
 | n+1,l1,z2,z12,z13,z14,b15,b16,b17,b18,b19,b20,z21,b23=>
  (if b23=true then getF l1 z12 fun x24=>ds_t39 x24 fun z25 z26 s27 s28 s29 l30 l31 z32=>bO10 (F128x4 n z25 z26 s27 s28 s29 l30 l31 z32 z13 z14 b15 b16 b17 b18 b19 b20 z21) fun b33 z34 z35 b36 b37 b38 b39 b40 b41 z42=>letB (!b33) fun b43=>(if b43=true then some (false,z34,z35,b36,b37,b38,b39,b40,b41,z42)else letF (IntKind.wrap .i64 (z12+1)) fun z44=>L98x5_1 n l1 z2 z44 z34 z35 b36 b37 b38 b39 b40 b41 z42)else lenF l1 fun z45=>(if z45<=z2 then some (true,z13,z14,b15,b16,b17,b18,b19,b20,z21)else some (false,z13,z14,b15,b16,b17,b18,b19,b20,z21)))
end
def F98x5 (n:Nat) (l1:LD) (z2:Int) (z3:Int) (z4:Int) (b5:Bool) (b6:Bool) (b7:Bool) (b8:Bool) (b9:Bool) (b10:Bool) (z11:Int):Option (Bool×Int×Int×Bool×Bool×Bool×Bool×Bool×Bool×Int):=
 L98x5_1 n l1 z2 (0:Int) z3 z4 b5 b6 b7 b8 b9 b10 z11
theorem T98x5 (n:Nat):∀⦃l1 z2 z3 z4 b5 b6 b7 b8 b9 b10 z11 r1 r2 r3 r4 r5 r6 r7 r8 r9 r10⦄,F98x5 n l1 z2 z3 z4 b5 b6 b7 b8 b9 b10 z11=some (r1,r2,r3,r4,r5,r6,r7,r8,r9,r10)->
    Trip Tryz.prog inv 98 [.d (.list true 8 l1),.d (.int .i64 z2),.c (.fn 128 [.ext 0,.ext 1])] [.cells [.d (.int .i64 z3),.d (.int .i64 z4),.d (.bool b5),.d (.bool b6),.d (.bool b7),.d (.bool b8),.d (.bool b9),.d (.bool b10),.fn 74 [],.fn 74 []],.cells [.d (.int .i64 z11)]] (.v (.d (.bool r1))) [.cells [.d (.int .i64 r2),.d (.int .i64 r3),.d (.bool r4),.d (.bool r5),.d (.bool r6),.d (.bool r7),.d (.bool r8),.d (.bool r9),.fn 74 [],.fn 74 []],.cells [.d (.int .i64 r10)]] []:=by
 intro l1 z2 z3 z4 b5 b6 b7 b8 b9 b10 z11 r1 r2 r3 r4 r5 r6 r7 r8 r9 r10 h
 unfold F98x5 at h
 refine Trip.of tab_ok tab_one fol Tryz.func98 rfl (by kernel_rfl) rfl rfl rfl (fun M hM hI=>?_)
 try cbv
 refine seq_go ?_
 try cbv
 refine seq_go ?_
 try cbv
 refine seq_go ?_
 try cbv
 refine loop_inv (T:=Nat×Int×Int×Int×Bool×Bool×Bool×Bool×Bool×Bool×Int) [0,1,2,6,7] [.ext 0,.ext 1] 64 (fun t=>⟨[sT 0 8 l1,sI 1 z2,(2,.v (.c (.fn 128 [.ext 0,.ext 1]))),sB 6 false,sI 7 t.2.1],[(.ext 0,.cells [.d (.int .i64 t.2.2.1),.d (.int .i64 t.2.2.2.1),.d (.bool t.2.2.2.2.1),.d (.bool t.2.2.2.2.2.1),.d (.bool t.2.2.2.2.2.2.1),.d (.bool t.2.2.2.2.2.2.2.1),.d (.bool t.2.2.2.2.2.2.2.2.1),.d (.bool t.2.2.2.2.2.2.2.2.2.1),.fn 74 [],.fn 74 []]),(.ext 1,.cells [.d (.int .i64 t.2.2.2.2.2.2.2.2.2.2)])],64⟩)
   (fun t=>t.1<=n/\L98x5_1 t.1 l1 z2 t.2.1 t.2.2.1 t.2.2.2.1 t.2.2.2.2.1 t.2.2.2.2.2.1 t.2.2.2.2.2.2.1 t.2.2.2.2.2.2.2.1 t.2.2.2.2.2.2.2.2.1 t.2.2.2.2.2.2.2.2.2.1 t.2.2.2.2.2.2.2.2.2.2=some (r1,r2,r3,r4,r5,r6,r7,r8,r9,r10)) (fun t=>t.1) (n,((0:Int),z3,z4,b5,b6,b7,b8,b9,b10,z11)) ⟨Nat.le_refl _,h⟩ (by cbv) ?_
 clear h
 rintro⟨m1,z12,z13,z14,b15,b16,b17,b18,b19,b20,z21⟩ ⟨hm1,h⟩
 replace hm1:m1<=n:=hm1
 obtain _ | m1:=m1
 ·replace h:L98x5_1 0 l1 z2 z12 z13 z14 b15 b16 b17 b18 b19 b20 z21=some (r1,r2,r3,r4,r5,r6,r7,r8,r9,r10):=h
  rw[L98x5_1]at h
  cases h
 replace h:L98x5_1 (m1+1) l1 z2 z12 z13 z14 b15 b16 b17 b18 b19 b20 z21=some (r1,r2,r3,r4,r5,r6,r7,r8,r9,r10):=h
 rw[L98x5_1]at h
 try cbv
 refine seq_go ?_
 try cbv
 refine seq_joinB 16 [0,1,2,6,7,16] [.ext 0,.ext 1] 352 (fun m b=>m<=m1/\L98x5_2 m l1 z2 z12 z13 z14 b15 b16 b17 b18 b19 b20 z21 b=some (r1,r2,r3,r4,r5,r6,r7,r8,r9,r10)) ?_ ?_
 ·try cbv
  replace h:=lenF_inv M h
  obtain⟨z22,hz,h⟩:=h
  refine⟨z22,hz,?_⟩
  clear hz
  try cbv
  refine splitL (fun e=>?_) (fun e=>?_)
  ·replace h:=ite_t e h
   clear e
   try cbv
   refine splitL (fun e=>?_) (fun e=>?_)
   ·replace h:=ite_t e h
    clear e
    try cbv
    exact join_next (m1,true) [0,1,2,6,7,16] [.ext 0,.ext 1] 352 ⟨by omega,h⟩ (by cbv)
   replace h:=ite_f (Int.not_lt.2 e) h
   clear e
   try cbv
   exact join_next (m1,false) [0,1,2,6,7,16] [.ext 0,.ext 1] 352 ⟨by omega,h⟩ (by cbv)
  replace h:=ite_f (Int.not_lt.2 e) h
  clear e
  try cbv
  exact join_next (m1,false) [0,1,2,6,7,16] [.ext 0,.ext 1] 352 ⟨by omega,h⟩ (by cbv)
 clear h
 rintro⟨m2,b23⟩ ⟨hm2,h⟩
 try cbv
 replace hm2:m2<=m1:=hm2
 obtain _ | m2:=m2
 ·replace h:L98x5_2 0 l1 z2 z12 z13 z14 b15 b16 b17 b18 b19 b20 z21 b23=some (r1,r2,r3,r4,r5,r6,r7,r8,r9,r10):=h
  rw[L98x5_2]at h
  cases h
 replace h:L98x5_2 (m2+1) l1 z2 z12 z13 z14 b15 b16 b17 b18 b19 b20 z21 b23=some (r1,r2,r3,r4,r5,r6,r7,r8,r9,r10):=h
 rw[L98x5_2]at h
 try cbv
 cases b23
 ·replace h:=itF h
  try cbv
  refine seq_go ?_
  try cbv
  replace h:=lenF_inv M h
  obtain⟨z45,hz,h⟩:=h
  refine⟨z45,hz,?_⟩
  clear hz
  try cbv
  refine splitLe (fun e=>?_) (fun e=>?_)
  ·replace h:=ite_t e h
   clear e
   try cbv
   obtain⟨rfl,rfl,rfl,rfl,rfl,rfl,rfl,rfl,rfl,rfl⟩:=inj10 h
   refine fin_go ?_
   try cbv
   exact⟨[],rfl,rfl,⟨rfl,⟨rfl,trivial⟩⟩,trivial,trivial⟩
  replace h:=ite_f (Int.not_le.2 e) h
  clear e
  try cbv
  obtain⟨rfl,rfl,rfl,rfl,rfl,rfl,rfl,rfl,rfl,rfl⟩:=inj10 h
  refine fin_go ?_
  try cbv
  exact⟨[],rfl,rfl,⟨rfl,⟨rfl,trivial⟩⟩,trivial,trivial⟩
 replace h:=itT h
 try cbv
 refine seq_go ?_
 try cbv
 refine seq_go ?_
 try cbv
 replace h:=getF_inv h
 obtain⟨x24,⟨hx0,hx⟩,h⟩:=h
 refine⟨x24,hx0,hx,?_⟩
 clear hx0 hx
 replace h:=ds_t39_inv h
 obtain⟨z25,z26,s27,s28,s29,l30,l31,z32,rfl,h⟩:=h
 try cbv
 replace h:=bO10_inv h
 obtain⟨b33,z34,z35,b36,b37,b38,b39,b40,b41,z42,hr,h⟩:=h
 refine call_go rfl rfl ?_
 try cbv
 refine call_with hM hI [.ext 0,.ext 1] (T128x4 _ hr) rfl (by simp) ⟨rfl,⟨rfl,trivial⟩⟩ ⟨trivial,⟨trivial,trivial⟩⟩ (by simp) ?_
 clear hr
 try cbv
 replace h:=letB_inv h
 obtain⟨b43,hz,h⟩:=h
 refine⟨b43,not_eq' hz,?_⟩
 clear hz
 try cbv
 cases b43
 ·replace h:=itF h
  try cbv
  replace h:=letF_inv h
  obtain⟨z44,hz,h⟩:=h
  refine⟨z44,hz,?_⟩
  clear hz
  try cbv
  exact loop_next (m2,(z44,z34,z35,b36,b37,b38,b39,b40,b41,z42)) [0,1,2,6,7] [.ext 0,.ext 1] 64 ⟨by omega,h⟩ (Nat.lt_succ_of_le (by omega)) (by cbv)
 replace h:=itT h
 try cbv
 refine seq_go ?_
 try cbv
 obtain⟨rfl,rfl,rfl,rfl,rfl,rfl,rfl,rfl,rfl,rfl⟩:=inj10 h
 refine fin_go ?_
 try cbv
 exact⟨[],rfl,rfl,⟨rfl,⟨rfl,trivial⟩⟩,trivial,trivial⟩
mutual
def F127:Nat->Int->BA->BA->LD->Int->BA->LD->Int->BA->LD->LD->LD->LD->LD->Int->Int->Option (Bool×Int)
 | 0,_,_,_,_,_,_,_,_,_,_,_,_,_,_,_,_=>none
 | n+1,z1,s2,s3,l4,z5,s6,l7,z8,s9,l10,l11,l12,l13,l14,z15,z16=>
  letF (IntKind.wrap .i64 (z16 - 1)) fun z17=>bO1 (F77 n z1 s2 s3 l4 z5 s6 l7 z8 s9 l10 l11 l12 l13 l14 z15 z17) fun b18=>some (b18,z16)
def L75x1_1:Nat->LD->Int->Int->Int->Option (Bool×Int)
 | 0,_,_,_,_=>none
 | n+1,l1,z2,z4,z5=>
  lenF l1 fun z6=>(if z4<z6 then (if z4<z2 then L75x1_2 n l1 z2 z4 z5 true else L75x1_2 n l1 z2 z4 z5 false)else L75x1_2 n l1 z2 z4 z5 false)
def L75x1_2:Nat->LD->Int->Int->Int->Bool->Option (Bool×Int)
 | 0,_,_,_,_,_=>none
 | n+1,l1,z2,z4,z5,b7=>
  (if b7=true then getF l1 z4 fun x8=>ds_t50 x8 fun z9 s10 s11 l12 z13 s14 l15 z16 s17 l18 l19 l20 l21 l22 z23=>bO2 (F127 n z9 s10 s11 l12 z13 s14 l15 z16 s17 l18 l19 l20 l21 l22 z23 z5) fun b24 z25=>letB (!b24) fun b26=>(if b26=true then some (false,z25)else letF (IntKind.wrap .i64 (z4+1)) fun z27=>L75x1_1 n l1 z2 z27 z25)else lenF l1 fun z28=>(if z28<=z2 then some (true,z5)else some (false,z5)))
def F75x1:Nat->LD->Int->Int->Option (Bool×Int)
 | 0,_,_,_=>none
 | n+1,l1,z2,z3=>
  L75x1_1 n l1 z2 (0:Int) z3
def F130:Nat->BA->BA->LD->Int->Option (Bool×Int)
 | 0,_,_,_,_=>none
 | n+1,s1,s2,l3,z4=>
  bO1 (F73 n s1) fun b5=>(if b5=true then (if s2=ByteArray.empty then lenF l3 fun z6=>bO2 (F75x1 n l3 z6 z4) fun b7 z8=>some (b7,z8)else bO1 (F74 n s2) fun b9=>(if b9=true then lenF l3 fun z10=>bO2 (F75x1 n l3 z10 z4) fun b11 z12=>some (b11,z12)else some (false,z4)))else some (false,z4))
def L129_1:Nat->LD->Int->Int->Int->Option (Bool×Int)
 | 0,_,_,_,_=>none
 | n+1,l1,z2,z4,z5=>
  lenF l1 fun z6=>(if z4<z6 then (if z4<z2 then L129_2 n l1 z2 z4 z5 true else L129_2 n l1 z2 z4 z5 false)else L129_2 n l1 z2 z4 z5 false)
def L129_2:Nat->LD->Int->Int->Int->Bool->Option (Bool×Int)
 | 0,_,_,_,_,_=>none
 | n+1,l1,z2,z4,z5,b7=>
  (if b7=true then getF l1 z4 fun x8=>ds_t95 x8 fun s9 s10 l11=>bO2 (F130 n s9 s10 l11 z5) fun b12 z13=>letB (!b12) fun b14=>(if b14=true then some (false,z13)else letF (IntKind.wrap .i64 (z4+1)) fun z15=>L129_1 n l1 z2 z15 z13)else lenF l1 fun z16=>(if z16<=z2 then some (true,z5)else some (false,z5)))
def F129:Nat->LD->Int->Int->Option (Bool×Int)
 | 0,_,_,_=>none
 | n+1,l1,z2,z3=>
  L129_1 n l1 z2 (0:Int) z3
def L77_1:Nat->Int->BA->LD->BA->LD->LD->LD->LD->LD->Int->Int->Int->Bool->Bool->Bool->Bool->Bool->Option (Bool)
 | 0,_,_,_,_,_,_,_,_,_,_,_,_,_,_,_,_,_=>none
 | n+1,z5,s6,l7,s9,l10,l11,l12,l13,l14,z16,z17,z18,b19,b20,b21,b22,b46=>
  (if b46=true then some false else letF (IntKind.wrap .i64 (z16 - 1)) fun z47=>bO1 (F55 n z5 s6 l7 z47) fun b48=>letB (!(false==b48)) fun b49=>(if b49=true then L77_2 n l11 l12 l13 l14 z16 z17 z18 b19 b20 b21 b22 true else bO1 (F72 n z5 s6 l7) fun b50=>letB (!b50) fun b51=>(if b51=true then L77_2 n l11 l12 l13 l14 z16 z17 z18 b19 b20 b21 b22 true else bO1 (F52 n s9 l10) fun b52=>letB (!(b19==b52)) fun b53=>(if b53=true then L77_2 n l11 l12 l13 l14 z16 z17 z18 b19 b20 b21 b22 true else letB (!b19) fun b54=>(if b54=true then bO1 (F126 n s9 l10) fun b55=>letB (!b55) fun b56=>L77_2 n l11 l12 l13 l14 z16 z17 z18 b19 b20 b21 b22 b56 else L77_2 n l11 l12 l13 l14 z16 z17 z18 b19 b20 b21 b22 false)))))
def L77_2:Nat->LD->LD->LD->LD->Int->Int->Int->Bool->Bool->Bool->Bool->Bool->Option (Bool)
 | 0,_,_,_,_,_,_,_,_,_,_,_,_=>none
 | n+1,l11,l12,l13,l14,z16,z17,z18,b19,b20,b21,b22,b57=>
  (if b57=true then some false else letB (!b20) fun b58=>(if b58=true then lenF l12 fun z59=>(if (0:Int)<z59 then L77_3 n l11 l12 l13 l14 z16 z17 z18 b19 b20 b21 b22 true else letB (!b21) fun b60=>(if b60=true then lenF l13 fun z61=>(if (0:Int)<z61 then L77_3 n l11 l12 l13 l14 z16 z17 z18 b19 b20 b21 b22 true else lenF l14 fun z62=>(if (0:Int)<z62 then L77_3 n l11 l12 l13 l14 z16 z17 z18 b19 b20 b21 b22 true else L77_3 n l11 l12 l13 l14 z16 z17 z18 b19 b20 b21 b22 false))else lenF l14 fun z63=>(if (0:Int)<z63 then L77_3 n l11 l12 l13 l14 z16 z17 z18 b19 b20 b21 b22 true else L77_3 n l11 l12 l13 l14 z16 z17 z18 b19 b20 b21 b22 false)))else letB (!b21) fun b64=>(if b64=true then lenF l13 fun z65=>(if (0:Int)<z65 then L77_3 n l11 l12 l13 l14 z16 z17 z18 b19 b20 b21 b22 true else lenF l14 fun z66=>(if (0:Int)<z66 then L77_3 n l11 l12 l13 l14 z16 z17 z18 b19 b20 b21 b22 true else L77_3 n l11 l12 l13 l14 z16 z17 z18 b19 b20 b21 b22 false))else lenF l14 fun z67=>(if (0:Int)<z67 then L77_3 n l11 l12 l13 l14 z16 z17 z18 b19 b20 b21 b22 true else L77_3 n l11 l12 l13 l14 z16 z17 z18 b19 b20 b21 b22 false))))
def L77_3:Nat->LD->LD->LD->LD->Int->Int->Int->Bool->Bool->Bool->Bool->Bool->Option (Bool)
 | 0,_,_,_,_,_,_,_,_,_,_,_,_=>none
 | n+1,l11,l12,l13,l14,z16,z17,z18,b19,b20,b21,b22,b68=>
  (if b68=true then some false else bO10 (F98x1 n l11 (6:Int) z17 z18 false b19 b20 b21 false b22 z16) fun b69 z70 z71 b72 b73 b74 b75 b76 b77 z78=>(if b69=true then lenF l12 fun z79=>bO2 (F75x1 n l12 z79 z78) fun b80 z81=>(if b80=true then lenF l13 fun z82=>bO2 (F75x1 n l13 z82 z81) fun b83 z84=>(if b83=true then bO2 (F129 n l14 (6:Int) z84) fun b85 z86=>some b85 else some false)else some false)else some false))
def L77_4:Nat->Int->BA->LD->BA->LD->LD->LD->LD->LD->Int->Int->Bool->Bool->Bool->Bool->Option (Bool)
 | 0,_,_,_,_,_,_,_,_,_,_,_,_,_,_,_=>none
 | n+1,z5,s6,l7,s9,l10,l11,l12,l13,l14,z16,z24,b25,b26,b27,b96=>
  (if b96=true then some false else letF (IntKind.wrap .i64 (z16 - 1)) fun z97=>bO1 (F55 n z5 s6 l7 z97) fun b98=>letB (!(false==b98)) fun b99=>(if b99=true then L77_5 n l11 l12 l13 l14 z16 z24 b25 b26 b27 true else bO1 (F72 n z5 s6 l7) fun b100=>letB (!b100) fun b101=>(if b101=true then L77_5 n l11 l12 l13 l14 z16 z24 b25 b26 b27 true else bO1 (F52 n s9 l10) fun b102=>letB (!(b25==b102)) fun b103=>(if b103=true then L77_5 n l11 l12 l13 l14 z16 z24 b25 b26 b27 true else letB (!b25) fun b104=>(if b104=true then bO1 (F126 n s9 l10) fun b105=>letB (!b105) fun b106=>L77_5 n l11 l12 l13 l14 z16 z24 b25 b26 b27 b106 else L77_5 n l11 l12 l13 l14 z16 z24 b25 b26 b27 false)))))
def L77_5:Nat->LD->LD->LD->LD->Int->Int->Bool->Bool->Bool->Bool->Option (Bool)
 | 0,_,_,_,_,_,_,_,_,_,_=>none
 | n+1,l11,l12,l13,l14,z16,z24,b25,b26,b27,b107=>
  (if b107=true then some false else letB (!b26) fun b108=>(if b108=true then lenF l12 fun z109=>(if (0:Int)<z109 then L77_6 n l11 l12 l13 l14 z16 z24 b25 b26 b27 true else lenF l13 fun z110=>(if (0:Int)<z110 then L77_6 n l11 l12 l13 l14 z16 z24 b25 b26 b27 true else lenF l14 fun z111=>(if (0:Int)<z111 then L77_6 n l11 l12 l13 l14 z16 z24 b25 b26 b27 true else L77_6 n l11 l12 l13 l14 z16 z24 b25 b26 b27 false)))else lenF l13 fun z112=>(if (0:Int)<z112 then L77_6 n l11 l12 l13 l14 z16 z24 b25 b26 b27 true else lenF l14 fun z113=>(if (0:Int)<z113 then L77_6 n l11 l12 l13 l14 z16 z24 b25 b26 b27 true else L77_6 n l11 l12 l13 l14 z16 z24 b25 b26 b27 false))))
def L77_6:Nat->LD->LD->LD->LD->Int->Int->Bool->Bool->Bool->Bool->Option (Bool)
 | 0,_,_,_,_,_,_,_,_,_,_=>none
 | n+1,l11,l12,l13,l14,z16,z24,b25,b26,b27,b114=>
  (if b114=true then some false else bO10 (F98x2 n l11 (6:Int) (0:Int) z24 false b25 b26 false false b27 z16) fun b115 z116 z117 b118 b119 b120 b121 b122 b123 z124=>(if b115=true then lenF l12 fun z125=>bO2 (F75x1 n l12 z125 z124) fun b126 z127=>(if b126=true then lenF l13 fun z128=>bO2 (F75x1 n l13 z128 z127) fun b129 z130=>(if b129=true then bO2 (F129 n l14 (6:Int) z130) fun b131 z132=>some b131 else some false)else some false)else some false))
def L77_7:Nat->Int->BA->LD->BA->LD->LD->LD->LD->LD->Int->Bool->Option (Bool)
 | 0,_,_,_,_,_,_,_,_,_,_,_=>none
 | n+1,z5,s6,l7,s9,l10,l11,l12,l13,l14,z16,b142=>
  (if b142=true then some false else letF (IntKind.wrap .i64 (z16 - 1)) fun z143=>bO1 (F55 n z5 s6 l7 z143) fun b144=>letB (!(false==b144)) fun b145=>(if b145=true then L77_8 n l11 l12 l13 l14 z16 true else bO1 (F72 n z5 s6 l7) fun b146=>letB (!b146) fun b147=>(if b147=true then L77_8 n l11 l12 l13 l14 z16 true else bO1 (F52 n s9 l10) fun b148=>letB (!(false==b148)) fun b149=>(if b149=true then L77_8 n l11 l12 l13 l14 z16 true else bO1 (F126 n s9 l10) fun b150=>letB (!b150) fun b151=>L77_8 n l11 l12 l13 l14 z16 b151))))
def L77_8:Nat->LD->LD->LD->LD->Int->Bool->Option (Bool)
 | 0,_,_,_,_,_,_=>none
 | n+1,l11,l12,l13,l14,z16,b152=>
  (if b152=true then some false else lenF l12 fun z153=>(if (0:Int)<z153 then L77_9 n l11 l12 l13 l14 z16 true else lenF l13 fun z154=>(if (0:Int)<z154 then L77_9 n l11 l12 l13 l14 z16 true else lenF l14 fun z155=>(if (0:Int)<z155 then L77_9 n l11 l12 l13 l14 z16 true else L77_9 n l11 l12 l13 l14 z16 false))))
def L77_9:Nat->LD->LD->LD->LD->Int->Bool->Option (Bool)
 | 0,_,_,_,_,_,_=>none
 | n+1,l11,l12,l13,l14,z16,b156=>
  (if b156=true then some false else bO10 (F98x3 n l11 (6:Int) (6:Int) (1:Int) false false false false false false z16) fun b157 z158 z159 b160 b161 b162 b163 b164 b165 z166=>(if b157=true then lenF l12 fun z167=>bO2 (F75x1 n l12 z167 z166) fun b168 z169=>(if b168=true then lenF l13 fun z170=>bO2 (F75x1 n l13 z170 z169) fun b171 z172=>(if b171=true then bO2 (F129 n l14 (6:Int) z172) fun b173 z174=>some b173 else some false)else some false)else some false))
def L77_10:Nat->Int->BA->LD->BA->LD->LD->LD->LD->LD->Int->Bool->Option (Bool)
 | 0,_,_,_,_,_,_,_,_,_,_,_=>none
 | n+1,z5,s6,l7,s9,l10,l11,l12,l13,l14,z16,b184=>
  (if b184=true then some false else letF (IntKind.wrap .i64 (z16 - 1)) fun z185=>bO1 (F55 n z5 s6 l7 z185) fun b186=>letB (!(false==b186)) fun b187=>(if b187=true then L77_11 n l11 l12 l13 l14 z16 true else bO1 (F72 n z5 s6 l7) fun b188=>letB (!b188) fun b189=>(if b189=true then L77_11 n l11 l12 l13 l14 z16 true else bO1 (F52 n s9 l10) fun b190=>letB (!(false==b190)) fun b191=>(if b191=true then L77_11 n l11 l12 l13 l14 z16 true else bO1 (F126 n s9 l10) fun b192=>letB (!b192) fun b193=>L77_11 n l11 l12 l13 l14 z16 b193))))
def L77_11:Nat->LD->LD->LD->LD->Int->Bool->Option (Bool)
 | 0,_,_,_,_,_,_=>none
 | n+1,l11,l12,l13,l14,z16,b194=>
  (if b194=true then some false else lenF l12 fun z195=>(if (0:Int)<z195 then L77_12 n l11 l12 l13 l14 z16 true else lenF l13 fun z196=>(if (0:Int)<z196 then L77_12 n l11 l12 l13 l14 z16 true else L77_12 n l11 l12 l13 l14 z16 false)))
def L77_12:Nat->LD->LD->LD->LD->Int->Bool->Option (Bool)
 | 0,_,_,_,_,_,_=>none
 | n+1,l11,l12,l13,l14,z16,b197=>
  (if b197=true then some false else bO10 (F98x4 n l11 (6:Int) (0:Int) (0:Int) false false false false true false z16) fun b198 z199 z200 b201 b202 b203 b204 b205 b206 z207=>(if b198=true then lenF l12 fun z208=>bO2 (F75x1 n l12 z208 z207) fun b209 z210=>(if b209=true then lenF l13 fun z211=>bO2 (F75x1 n l13 z211 z210) fun b212 z213=>(if b212=true then bO2 (F129 n l14 (6:Int) z213) fun b214 z215=>some b214 else some false)else some false)else some false))
def L77_13:Nat->Int->BA->LD->BA->LD->LD->LD->LD->LD->Int->Bool->Option (Bool)
 | 0,_,_,_,_,_,_,_,_,_,_,_=>none
 | n+1,z5,s6,l7,s9,l10,l11,l12,l13,l14,z16,b225=>
  (if b225=true then some false else letF (IntKind.wrap .i64 (z16 - 1)) fun z226=>bO1 (F55 n z5 s6 l7 z226) fun b227=>letB (!(true==b227)) fun b228=>(if b228=true then L77_14 n l11 l12 l13 l14 z16 true else bO1 (F52 n s9 l10) fun b229=>letB (!(false==b229)) fun b230=>(if b230=true then L77_14 n l11 l12 l13 l14 z16 true else bO1 (F126 n s9 l10) fun b231=>letB (!b231) fun b232=>L77_14 n l11 l12 l13 l14 z16 b232)))
def L77_14:Nat->LD->LD->LD->LD->Int->Bool->Option (Bool)
 | 0,_,_,_,_,_,_=>none
 | n+1,l11,l12,l13,l14,z16,b233=>
  (if b233=true then some false else lenF l12 fun z234=>(if (0:Int)<z234 then L77_15 n l11 l12 l13 l14 z16 true else lenF l13 fun z235=>(if (0:Int)<z235 then L77_15 n l11 l12 l13 l14 z16 true else lenF l14 fun z236=>(if (0:Int)<z236 then L77_15 n l11 l12 l13 l14 z16 true else L77_15 n l11 l12 l13 l14 z16 false))))
def L77_15:Nat->LD->LD->LD->LD->Int->Bool->Option (Bool)
 | 0,_,_,_,_,_,_=>none
 | n+1,l11,l12,l13,l14,z16,b237=>
  (if b237=true then some false else bO10 (F98x5 n l11 (6:Int) (0:Int) (0:Int) true false false false false false z16) fun b238 z239 z240 b241 b242 b243 b244 b245 b246 z247=>(if b238=true then lenF l12 fun z248=>bO2 (F75x1 n l12 z248 z247) fun b249 z250=>(if b249=true then lenF l13 fun z251=>bO2 (F75x1 n l13 z251 z250) fun b252 z253=>(if b252=true then bO2 (F129 n l14 (6:Int) z253) fun b254 z255=>some b254 else some false)else some false)else some false))
def F77:Nat->Int->BA->BA->LD->Int->BA->LD->Int->BA->LD->LD->LD->LD->LD->Int->Int->Option (Bool)
 | 0,_,_,_,_,_,_,_,_,_,_,_,_,_,_,_,_=>none
 | n+1,z1,s2,s3,l4,z5,s6,l7,z8,s9,l10,l11,l12,l13,l14,z15,z16=>
  bS (F124 n z1 s2 s3 l4 z5 s6 l7 z8 s9 l10 l11 l12 l13 l14 z15) (fun p28=>bO7 (some p28) fun z17 z18 b19 b20 b21 b22 b23=>(if z16<(1:Int)then L77_1 n z5 s6 l7 s9 l10 l11 l12 l13 l14 z16 z17 z18 b19 b20 b21 b22 true else letB (!b23) fun b36=>(if b36=true then L77_1 n z5 s6 l7 s9 l10 l11 l12 l13 l14 z16 z17 z18 b19 b20 b21 b22 true else bO1 (F125 n z1 s2 s3 l4 z5 s6 l7 z8 s9 l10 l11 l12 l13 l14 z15) fun b37=>letB (!b37) fun b38=>(if b38=true then L77_1 n z5 s6 l7 s9 l10 l11 l12 l13 l14 z16 z17 z18 b19 b20 b21 b22 true else bO1 (F145 n s2) fun b39=>letB (!b39) fun b40=>(if b40=true then L77_1 n z5 s6 l7 s9 l10 l11 l12 l13 l14 z16 z17 z18 b19 b20 b21 b22 true else bO1 (F145 n s3) fun b41=>letB (!b41) fun b42=>(if b42=true then L77_1 n z5 s6 l7 s9 l10 l11 l12 l13 l14 z16 z17 z18 b19 b20 b21 b22 true else lenF l11 fun z43=>(if z43=z18 then bO1 (F93x1 n l4 z17) fun b44=>letB (!b44) fun b45=>L77_1 n z5 s6 l7 s9 l10 l11 l12 l13 l14 z16 z17 z18 b19 b20 b21 b22 b45 else L77_1 n z5 s6 l7 s9 l10 l11 l12 l13 l14 z16 z17 z18 b19 b20 b21 b22 true))))))) (fun q29=>bS (some q29) (fun p30=>bO4 (some p30) fun z24 b25 b26 b27=>(if z16<(1:Int)then L77_4 n z5 s6 l7 s9 l10 l11 l12 l13 l14 z16 z24 b25 b26 b27 true else bO1 (F125 n z1 s2 s3 l4 z5 s6 l7 z8 s9 l10 l11 l12 l13 l14 z15) fun b87=>letB (!b87) fun b88=>(if b88=true then L77_4 n z5 s6 l7 s9 l10 l11 l12 l13 l14 z16 z24 b25 b26 b27 true else bO1 (F74 n s2) fun b89=>letB (!b89) fun b90=>(if b90=true then L77_4 n z5 s6 l7 s9 l10 l11 l12 l13 l14 z16 z24 b25 b26 b27 true else bO1 (F145 n s3) fun b91=>letB (!b91) fun b92=>(if b92=true then L77_4 n z5 s6 l7 s9 l10 l11 l12 l13 l14 z16 z24 b25 b26 b27 true else lenF l11 fun z93=>(if z93=z24 then bO1 (F93x1 n l4 (0:Int)) fun b94=>letB (!b94) fun b95=>L77_4 n z5 s6 l7 s9 l10 l11 l12 l13 l14 z16 z24 b25 b26 b27 b95 else L77_4 n z5 s6 l7 s9 l10 l11 l12 l13 l14 z16 z24 b25 b26 b27 true)))))) (fun q31=>bS (some q31) (fun _=>(if z16<(1:Int)then L77_7 n z5 s6 l7 s9 l10 l11 l12 l13 l14 z16 true else bO1 (F125 n z1 s2 s3 l4 z5 s6 l7 z8 s9 l10 l11 l12 l13 l14 z15) fun b133=>letB (!b133) fun b134=>(if b134=true then L77_7 n z5 s6 l7 s9 l10 l11 l12 l13 l14 z16 true else bO1 (F73 n s2) fun b135=>letB (!b135) fun b136=>(if b136=true then L77_7 n z5 s6 l7 s9 l10 l11 l12 l13 l14 z16 true else bO1 (F145 n s3) fun b137=>letB (!b137) fun b138=>(if b138=true then L77_7 n z5 s6 l7 s9 l10 l11 l12 l13 l14 z16 true else lenF l11 fun z139=>(if z139=(1:Int)then bO1 (F93x1 n l4 (6:Int)) fun b140=>letB (!b140) fun b141=>L77_7 n z5 s6 l7 s9 l10 l11 l12 l13 l14 z16 b141 else L77_7 n z5 s6 l7 s9 l10 l11 l12 l13 l14 z16 true)))))) (fun q33=>bS (some q33) (fun _=>(if z16<(1:Int)then L77_10 n z5 s6 l7 s9 l10 l11 l12 l13 l14 z16 true else bO1 (F125 n z1 s2 s3 l4 z5 s6 l7 z8 s9 l10 l11 l12 l13 l14 z15) fun b175=>letB (!b175) fun b176=>(if b176=true then L77_10 n z5 s6 l7 s9 l10 l11 l12 l13 l14 z16 true else bO1 (F74 n s2) fun b177=>letB (!b177) fun b178=>(if b178=true then L77_10 n z5 s6 l7 s9 l10 l11 l12 l13 l14 z16 true else bO1 (F73 n s3) fun b179=>letB (!b179) fun b180=>(if b180=true then L77_10 n z5 s6 l7 s9 l10 l11 l12 l13 l14 z16 true else lenF l11 fun z181=>(if z181=(0:Int)then bO1 (F93x1 n l4 (0:Int)) fun b182=>letB (!b182) fun b183=>L77_10 n z5 s6 l7 s9 l10 l11 l12 l13 l14 z16 b183 else L77_10 n z5 s6 l7 s9 l10 l11 l12 l13 l14 z16 true)))))) (fun _=>(if z16<(1:Int)then L77_13 n z5 s6 l7 s9 l10 l11 l12 l13 l14 z16 true else bO1 (F125 n z1 s2 s3 l4 z5 s6 l7 z8 s9 l10 l11 l12 l13 l14 z15) fun b216=>letB (!b216) fun b217=>(if b217=true then L77_13 n z5 s6 l7 s9 l10 l11 l12 l13 l14 z16 true else bO1 (F74 n s2) fun b218=>letB (!b218) fun b219=>(if b219=true then L77_13 n z5 s6 l7 s9 l10 l11 l12 l13 l14 z16 true else bO1 (F74 n s3) fun b220=>letB (!b220) fun b221=>(if b221=true then L77_13 n z5 s6 l7 s9 l10 l11 l12 l13 l14 z16 true else lenF l11 fun z222=>(if z222=(0:Int)then bO1 (F93x1 n l4 (0:Int)) fun b223=>letB (!b223) fun b224=>L77_13 n z5 s6 l7 s9 l10 l11 l12 l13 l14 z16 b224 else L77_13 n z5 s6 l7 s9 l10 l11 l12 l13 l14 z16 true)))))))))
end
theorem G127 (n:Nat):(∀⦃z1 s2 s3 l4 z5 s6 l7 z8 s9 l10 l11 l12 l13 l14 z15 z16 r1 r2⦄,F127 n z1 s2 s3 l4 z5 s6 l7 z8 s9 l10 l11 l12 l13 l14 z15 z16=some (r1,r2)->
    Trip Tryz.prog inv 127 [.d (.agg [.int .u8 z1,.str s2,.str s3,.list false 1 l4,.int .u8 z5,.str s6,.list true 3 l7,.int .i64 z8,.str s9,.list false 1 l10,.list true 8 l11,.list true 15 l12,.list true 15 l13,.list true 3 l14,.int .i64 z15]),.c (.ptr (.ext 0) 0)] [.cells [.d (.int .i64 z16)]] (.v (.d (.bool r1))) [.cells [.d (.int .i64 r2)]] [])/\
    (∀⦃l1 z2 z3 r1 r2⦄,F75x1 n l1 z2 z3=some (r1,r2)->
    Trip Tryz.prog inv 75 [.d (.list true 15 l1),.d (.int .i64 z2),.c (.fn 127 [.ext 0])] [.cells [.d (.int .i64 z3)]] (.v (.d (.bool r1))) [.cells [.d (.int .i64 r2)]] [])/\
    (∀⦃s1 s2 l3 z4 r1 r2⦄,F130 n s1 s2 l3 z4=some (r1,r2)->
    Trip Tryz.prog inv 130 [.d (.agg [.str s1,.str s2,.list true 15 l3]),.c (.ptr (.ext 0) 0)] [.cells [.fn 127 [.ext 1]],.cells [.d (.int .i64 z4)]] (.v (.d (.bool r1))) [.cells [.fn 127 [.ext 1]],.cells [.d (.int .i64 r2)]] [])/\
    (∀⦃l1 z2 z3 r1 r2⦄,F129 n l1 z2 z3=some (r1,r2)->
    Trip Tryz.prog inv 129 [.d (.list true 3 l1),.d (.int .i64 z2),.c (.fn 130 [.ext 0])] [.cells [.fn 127 [.ext 1]],.cells [.d (.int .i64 z3)]] (.v (.d (.bool r1))) [.cells [.fn 127 [.ext 1]],.cells [.d (.int .i64 r2)]] [])/\
    (∀⦃z1 s2 s3 l4 z5 s6 l7 z8 s9 l10 l11 l12 l13 l14 z15 z16 r1⦄,F77 n z1 s2 s3 l4 z5 s6 l7 z8 s9 l10 l11 l12 l13 l14 z15 z16=some r1->
    Trip Tryz.prog inv 77 [.d (.agg [.int .u8 z1,.str s2,.str s3,.list false 1 l4,.int .u8 z5,.str s6,.list true 3 l7,.int .i64 z8,.str s9,.list false 1 l10,.list true 8 l11,.list true 15 l12,.list true 15 l13,.list true 3 l14,.int .i64 z15]),.d (.int .i64 z16)] [] (.v (.d (.bool r1))) [] []):=by
 induction n using Nat.strongRecOn with | _ n ih=>
 obtain _ | n:=n
 ·refine⟨?_,?_,?_,?_,?_⟩
  ·intro z1 s2 s3 l4 z5 s6 l7 z8 s9 l10 l11 l12 l13 l14 z15 z16 r1 r2 h
   cases (show (none:Option _)=some _ from h)
  ·intro l1 z2 z3 r1 r2 h
   cases (show (none:Option _)=some _ from h)
  ·intro s1 s2 l3 z4 r1 r2 h
   cases (show (none:Option _)=some _ from h)
  ·intro l1 z2 z3 r1 r2 h
   cases (show (none:Option _)=some _ from h)
  intro z1 s2 s3 l4 z5 s6 l7 z8 s9 l10 l11 l12 l13 l14 z15 z16 r1 h
  cases (show (none:Option _)=some _ from h)
 refine⟨?_,?_,?_,?_,?_⟩
 ·intro z1 s2 s3 l4 z5 s6 l7 z8 s9 l10 l11 l12 l13 l14 z15 z16 r1 r2 h
  rw[F127]at h
  refine Trip.of tab_ok tab_one fol Tryz.func127 rfl (by kernel_rfl) rfl rfl rfl (fun M hM hI=>?_)
  try cbv
  refine seq_go ?_
  try cbv
  refine seq_go ?_
  try cbv
  replace h:=letF_inv h
  obtain⟨z17,hz,h⟩:=h
  refine⟨z17,hz,?_⟩
  clear hz
  try cbv
  replace h:=bO1_inv h
  obtain⟨b18,hr,h⟩:=h
  refine call_go rfl rfl ?_
  try cbv
  refine call_pure hM hI ((ih _ (by omega)).2.2.2.2 hr) rfl ?_
  clear hr
  try cbv
  obtain⟨rfl,rfl⟩:=inj2 h
  refine fin_go ?_
  try cbv
  exact⟨[],rfl,rfl,⟨rfl,trivial⟩,trivial,trivial⟩
 ·intro l1 z2 z3 r1 r2 h
  rw[F75x1]at h
  refine Trip.of tab_ok tab_one fol Tryz.func75 rfl (by kernel_rfl) rfl rfl rfl (fun M hM hI=>?_)
  try cbv
  refine seq_go ?_
  try cbv
  refine seq_go ?_
  try cbv
  refine seq_go ?_
  try cbv
  refine loop_inv (T:=Nat×Int×Int) [0,1,2,6,7] [.ext 0] 64 (fun t=>⟨[sT 0 15 l1,sI 1 z2,(2,.v (.c (.fn 127 [.ext 0]))),sB 6 false,sI 7 t.2.1],[(.ext 0,.cells [.d (.int .i64 t.2.2)])],64⟩)
    (fun t=>t.1<=n/\L75x1_1 t.1 l1 z2 t.2.1 t.2.2=some (r1,r2)) (fun t=>t.1) (n,((0:Int),z3)) ⟨Nat.le_refl _,h⟩ (by cbv) ?_
  clear h
  rintro⟨m1,z4,z5⟩ ⟨hm1,h⟩
  replace hm1:m1<=n:=hm1
  obtain _ | m1:=m1
  ·replace h:L75x1_1 0 l1 z2 z4 z5=some (r1,r2):=h
   rw[L75x1_1]at h
   cases h
  replace h:L75x1_1 (m1+1) l1 z2 z4 z5=some (r1,r2):=h
  rw[L75x1_1]at h
  try cbv
  refine seq_go ?_
  try cbv
  refine seq_join (T:=Nat×Bool) (fun t=>⟨[sT 0 15 l1,sI 1 z2,(2,.v (.c (.fn 127 [.ext 0]))),sB 6 false,sI 7 z4,sB 16 t.2],[(.ext 0,.cells [.d (.int .i64 z5)])],352⟩) (fun t=>t.1<=m1/\L75x1_2 t.1 l1 z2 z4 z5 t.2=some (r1,r2)) ?_ ?_
  ·try cbv
   replace h:=lenF_inv M h
   obtain⟨z6,hz,h⟩:=h
   refine⟨z6,hz,?_⟩
   clear hz
   try cbv
   refine splitL (fun e=>?_) (fun e=>?_)
   ·replace h:=ite_t e h
    clear e
    try cbv
    refine splitL (fun e=>?_) (fun e=>?_)
    ·replace h:=ite_t e h
     clear e
     try cbv
     exact join_next (m1,true) [0,1,2,6,7,16] [.ext 0] 352 ⟨by omega,h⟩ (by cbv)
    replace h:=ite_f (Int.not_lt.2 e) h
    clear e
    try cbv
    exact join_next (m1,false) [0,1,2,6,7,16] [.ext 0] 352 ⟨by omega,h⟩ (by cbv)
   replace h:=ite_f (Int.not_lt.2 e) h
   clear e
   try cbv
   exact join_next (m1,false) [0,1,2,6,7,16] [.ext 0] 352 ⟨by omega,h⟩ (by cbv)
  clear h
  rintro⟨m2,b7⟩ ⟨hm2,h⟩
  replace hm2:m2<=m1:=hm2
  obtain _ | m2:=m2
  ·replace h:L75x1_2 0 l1 z2 z4 z5 b7=some (r1,r2):=h
   rw[L75x1_2]at h
   cases h
  replace h:L75x1_2 (m2+1) l1 z2 z4 z5 b7=some (r1,r2):=h
  rw[L75x1_2]at h
  try cbv
  cases b7
  ·replace h:=itF h
   try cbv
   refine seq_go ?_
   try cbv
   replace h:=lenF_inv M h
   obtain⟨z28,hz,h⟩:=h
   refine⟨z28,hz,?_⟩
   clear hz
   try cbv
   refine splitLe (fun e=>?_) (fun e=>?_)
   ·replace h:=ite_t e h
    clear e
    try cbv
    obtain⟨rfl,rfl⟩:=inj2 h
    refine fin_go ?_
    try cbv
    exact⟨[],rfl,rfl,⟨rfl,trivial⟩,trivial,trivial⟩
   replace h:=ite_f (Int.not_le.2 e) h
   clear e
   try cbv
   obtain⟨rfl,rfl⟩:=inj2 h
   refine fin_go ?_
   try cbv
   exact⟨[],rfl,rfl,⟨rfl,trivial⟩,trivial,trivial⟩
  replace h:=itT h
  try cbv
  refine seq_go ?_
  try cbv
  refine seq_go ?_
  try cbv
  replace h:=getF_inv h
  obtain⟨x8,⟨hx0,hx⟩,h⟩:=h
  refine⟨x8,hx0,hx,?_⟩
  clear hx0 hx
  replace h:=ds_t50_inv h
  obtain⟨z9,s10,s11,l12,z13,s14,l15,z16,s17,l18,l19,l20,l21,l22,z23,rfl,h⟩:=h
  try cbv
  replace h:=bO2_inv h
  obtain⟨b24,z25,hr,h⟩:=h
  refine call_go rfl rfl ?_
  try cbv
  refine call_with hM hI [.ext 0] ((ih _ (by omega)).1 hr) rfl (by simp) ⟨rfl,trivial⟩ ⟨trivial,trivial⟩ (by simp) ?_
  clear hr
  try cbv
  replace h:=letB_inv h
  obtain⟨b26,hz,h⟩:=h
  refine⟨b26,not_eq' hz,?_⟩
  clear hz
  try cbv
  cases b26
  ·replace h:=itF h
   try cbv
   replace h:=letF_inv h
   obtain⟨z27,hz,h⟩:=h
   refine⟨z27,hz,?_⟩
   clear hz
   try cbv
   exact loop_next (m2,(z27,z25)) [0,1,2,6,7] [.ext 0] 64 ⟨by omega,h⟩ (Nat.lt_succ_of_le (by omega)) (by cbv)
  replace h:=itT h
  try cbv
  refine seq_go ?_
  try cbv
  obtain⟨rfl,rfl⟩:=inj2 h
  refine fin_go ?_
  try cbv
  exact⟨[],rfl,rfl,⟨rfl,trivial⟩,trivial,trivial⟩
 ·intro s1 s2 l3 z4 r1 r2 h
  rw[F130]at h
  refine Trip.of tab_ok tab_one fol Tryz.func130 rfl (by kernel_rfl) rfl rfl rfl (fun M hM hI=>?_)
  try cbv
  refine seq_go ?_
  try cbv
  refine seq_go ?_
  try cbv
  replace h:=bO1_inv h
  obtain⟨b5,hr,h⟩:=h
  refine call_go rfl rfl ?_
  try cbv
  refine call_pure hM hI (T73 _ hr) rfl ?_
  clear hr
  try cbv
  cases b5
  ·replace h:=itF h
   try cbv
   obtain⟨rfl,rfl⟩:=inj2 h
   refine fin_go ?_
   try cbv
   exact⟨[],rfl,rfl,⟨rfl,⟨rfl,trivial⟩⟩,trivial,trivial⟩
  replace h:=itT h
  try cbv
  refine splitS (fun e=>?_) (fun e=>?_)
  ·replace h:=ite_t (bytes_eq.1 e) h
   clear e
   try cbv
   replace h:=lenF_inv M h
   obtain⟨z6,hz,h⟩:=h
   refine⟨z6,hz,?_⟩
   clear hz
   try cbv
   replace h:=bO2_inv h
   obtain⟨b7,z8,hr,h⟩:=h
   refine call_go rfl rfl ?_
   try cbv
   refine call_with hM hI [.ext 1] ((ih _ (by omega)).2.1 hr) rfl (by simp) ⟨rfl,trivial⟩ ⟨trivial,trivial⟩ (by simp) ?_
   clear hr
   try cbv
   obtain⟨rfl,rfl⟩:=inj2 h
   refine fin_go ?_
   try cbv
   exact⟨[],rfl,rfl,⟨rfl,⟨rfl,trivial⟩⟩,trivial,trivial⟩
  replace h:=ite_f (bytes_ne.1 e) h
  clear e
  try cbv
  replace h:=bO1_inv h
  obtain⟨b9,hr,h⟩:=h
  refine call_go rfl rfl ?_
  try cbv
  refine call_pure hM hI (T74 _ hr) rfl ?_
  clear hr
  try cbv
  cases b9
  ·replace h:=itF h
   try cbv
   obtain⟨rfl,rfl⟩:=inj2 h
   refine fin_go ?_
   try cbv
   exact⟨[],rfl,rfl,⟨rfl,⟨rfl,trivial⟩⟩,trivial,trivial⟩
  replace h:=itT h
  try cbv
  replace h:=lenF_inv M h
  obtain⟨z10,hz,h⟩:=h
  refine⟨z10,hz,?_⟩
  clear hz
  try cbv
  replace h:=bO2_inv h
  obtain⟨b11,z12,hr,h⟩:=h
  refine call_go rfl rfl ?_
  try cbv
  refine call_with hM hI [.ext 1] ((ih _ (by omega)).2.1 hr) rfl (by simp) ⟨rfl,trivial⟩ ⟨trivial,trivial⟩ (by simp) ?_
  clear hr
  try cbv
  obtain⟨rfl,rfl⟩:=inj2 h
  refine fin_go ?_
  try cbv
  exact⟨[],rfl,rfl,⟨rfl,⟨rfl,trivial⟩⟩,trivial,trivial⟩
 ·intro l1 z2 z3 r1 r2 h
  rw[F129]at h
  refine Trip.of tab_ok tab_one fol Tryz.func129 rfl (by kernel_rfl) rfl rfl rfl (fun M hM hI=>?_)
  try cbv
  refine seq_go ?_
  try cbv
  refine seq_go ?_
  try cbv
  refine seq_go ?_
  try cbv
  refine loop_inv (T:=Nat×Int×Int) [0,1,2,6,7] [.ext 0,.ext 1] 64 (fun t=>⟨[sT 0 3 l1,sI 1 z2,(2,.v (.c (.fn 130 [.ext 0]))),sB 6 false,sI 7 t.2.1],[(.ext 0,.cells [.fn 127 [.ext 1]]),(.ext 1,.cells [.d (.int .i64 t.2.2)])],64⟩)
    (fun t=>t.1<=n/\L129_1 t.1 l1 z2 t.2.1 t.2.2=some (r1,r2)) (fun t=>t.1) (n,((0:Int),z3)) ⟨Nat.le_refl _,h⟩ (by cbv) ?_
  clear h
  rintro⟨m1,z4,z5⟩ ⟨hm1,h⟩
  replace hm1:m1<=n:=hm1
  obtain _ | m1:=m1
  ·replace h:L129_1 0 l1 z2 z4 z5=some (r1,r2):=h
   rw[L129_1]at h
   cases h
  replace h:L129_1 (m1+1) l1 z2 z4 z5=some (r1,r2):=h
  rw[L129_1]at h
  try cbv
  refine seq_go ?_
  try cbv
  refine seq_join (T:=Nat×Bool) (fun t=>⟨[sT 0 3 l1,sI 1 z2,(2,.v (.c (.fn 130 [.ext 0]))),sB 6 false,sI 7 z4,sB 16 t.2],[(.ext 0,.cells [.fn 127 [.ext 1]]),(.ext 1,.cells [.d (.int .i64 z5)])],352⟩) (fun t=>t.1<=m1/\L129_2 t.1 l1 z2 z4 z5 t.2=some (r1,r2)) ?_ ?_
  ·try cbv
   replace h:=lenF_inv M h
   obtain⟨z6,hz,h⟩:=h
   refine⟨z6,hz,?_⟩
   clear hz
   try cbv
   refine splitL (fun e=>?_) (fun e=>?_)
   ·replace h:=ite_t e h
    clear e
    try cbv
    refine splitL (fun e=>?_) (fun e=>?_)
    ·replace h:=ite_t e h
     clear e
     try cbv
     exact join_next (m1,true) [0,1,2,6,7,16] [.ext 0,.ext 1] 352 ⟨by omega,h⟩ (by cbv)
    replace h:=ite_f (Int.not_lt.2 e) h
    clear e
    try cbv
    exact join_next (m1,false) [0,1,2,6,7,16] [.ext 0,.ext 1] 352 ⟨by omega,h⟩ (by cbv)
   replace h:=ite_f (Int.not_lt.2 e) h
   clear e
   try cbv
   exact join_next (m1,false) [0,1,2,6,7,16] [.ext 0,.ext 1] 352 ⟨by omega,h⟩ (by cbv)
  clear h
  rintro⟨m2,b7⟩ ⟨hm2,h⟩
  replace hm2:m2<=m1:=hm2
  obtain _ | m2:=m2
  ·replace h:L129_2 0 l1 z2 z4 z5 b7=some (r1,r2):=h
   rw[L129_2]at h
   cases h
  replace h:L129_2 (m2+1) l1 z2 z4 z5 b7=some (r1,r2):=h
  rw[L129_2]at h
  try cbv
  cases b7
  ·replace h:=itF h
   try cbv
   refine seq_go ?_
   try cbv
   replace h:=lenF_inv M h
   obtain⟨z16,hz,h⟩:=h
   refine⟨z16,hz,?_⟩
   clear hz
   try cbv
   refine splitLe (fun e=>?_) (fun e=>?_)
   ·replace h:=ite_t e h
    clear e
    try cbv
    obtain⟨rfl,rfl⟩:=inj2 h
    refine fin_go ?_
    try cbv
    exact⟨[],rfl,rfl,⟨rfl,⟨rfl,trivial⟩⟩,trivial,trivial⟩
   replace h:=ite_f (Int.not_le.2 e) h
   clear e
   try cbv
   obtain⟨rfl,rfl⟩:=inj2 h
   refine fin_go ?_
   try cbv
   exact⟨[],rfl,rfl,⟨rfl,⟨rfl,trivial⟩⟩,trivial,trivial⟩
  replace h:=itT h
  try cbv
  refine seq_go ?_
  try cbv
  refine seq_go ?_
  try cbv
  replace h:=getF_inv h
  obtain⟨x8,⟨hx0,hx⟩,h⟩:=h
  refine⟨x8,hx0,hx,?_⟩
  clear hx0 hx
  replace h:=ds_t95_inv h
  obtain⟨s9,s10,l11,rfl,h⟩:=h
  try cbv
  replace h:=bO2_inv h
  obtain⟨b12,z13,hr,h⟩:=h
  refine call_go rfl rfl ?_
  try cbv
  refine call_with hM hI [.ext 0,.ext 1] ((ih _ (by omega)).2.2.1 hr) rfl (by simp) ⟨rfl,⟨rfl,trivial⟩⟩ ⟨trivial,⟨trivial,trivial⟩⟩ (by simp) ?_
  clear hr
  try cbv
  replace h:=letB_inv h
  obtain⟨b14,hz,h⟩:=h
  refine⟨b14,not_eq' hz,?_⟩
  clear hz
  try cbv
  cases b14
  ·replace h:=itF h
   try cbv
   replace h:=letF_inv h
   obtain⟨z15,hz,h⟩:=h
   refine⟨z15,hz,?_⟩
   clear hz
   try cbv
   exact loop_next (m2,(z15,z13)) [0,1,2,6,7] [.ext 0,.ext 1] 64 ⟨by omega,h⟩ (Nat.lt_succ_of_le (by omega)) (by cbv)
  replace h:=itT h
  try cbv
  refine seq_go ?_
  try cbv
  obtain⟨rfl,rfl⟩:=inj2 h
  refine fin_go ?_
  try cbv
  exact⟨[],rfl,rfl,⟨rfl,⟨rfl,trivial⟩⟩,trivial,trivial⟩
 intro z1 s2 s3 l4 z5 s6 l7 z8 s9 l10 l11 l12 l13 l14 z15 z16 r1 h
 rw[F77]at h
 refine Trip.of tab_ok tab_one fol Tryz.func77 rfl (by kernel_rfl) rfl rfl rfl (fun M hM hI=>?_)
 try cbv
 refine seq_go ?_
 try cbv
 refine seq_go ?_
 try cbv
 replace h:=bS_inv h
 rcases h with⟨p28,hr,h⟩ | ⟨q29,hr,h⟩
 ·replace h:=bO7_inv h
  obtain⟨z17,z18,b19,b20,b21,b22,b23,hp,h⟩:=h
  obtain rfl:=Option.some.inj hp
  clear hp
  refine call_go rfl rfl ?_
  try cbv
  refine call_pure hM hI (T124 _ hr (fun r p n=>r= .t [.agg [.d (.int .i64 z17),.d (.int .i64 z18),.d (.bool false),.d (.bool b19),.d (.bool b20),.d (.bool b21),.d (.bool false),.d (.bool b22),.fn 145 [],.fn 145 []],.d (.bool b23)]/\p=[]/\n=[]) ⟨rfl,rfl,rfl⟩:Trip _ _ _ _ _ (.t [.agg [.d (.int .i64 z17),.d (.int .i64 z18),.d (.bool false),.d (.bool b19),.d (.bool b20),.d (.bool b21),.d (.bool false),.d (.bool b22),.fn 145 [],.fn 145 []],.d (.bool b23)]) [] []) rfl ?_
  clear hr
  try cbv
  refine seq_go ?_
  try cbv
  refine seq_join (T:=Nat×Bool) (fun t=>⟨[sL 2 0,sL 3 32,sB 4 false,sL 5 256,sB 55 t.2],[(.loc 0,.cells [.d (.int .u8 z1),.d (.str s2),.d (.str s3),.d (.list false 1 l4),.d (.int .u8 z5),.d (.str s6),.d (.list true 3 l7),.d (.int .i64 z8),.d (.str s9),.d (.list false 1 l10),.d (.list true 8 l11),.d (.list true 15 l12),.d (.list true 15 l13),.d (.list true 3 l14),.d (.int .i64 z15)]),(.loc 32,.cells [.d (.int .i64 z16)]),(.loc 256,.cells [.d (.int .i64 z17),.d (.int .i64 z18),.d (.bool false),.d (.bool b19),.d (.bool b20),.d (.bool b21),.d (.bool false),.d (.bool b22),.fn 145 [],.fn 145 []])],1728⟩) (fun t=>t.1<=n/\L77_1 t.1 z5 s6 l7 s9 l10 l11 l12 l13 l14 z16 z17 z18 b19 b20 b21 b22 t.2=some r1) ?_ ?_
  ·try cbv
   refine splitL (fun e=>?_) (fun e=>?_)
   ·replace h:=ite_t e h
    clear e
    try cbv
    exact join_next (n,true) [2,3,4,5,55] [.loc 0,.loc 32,.loc 256] 1728 ⟨by omega,h⟩ (by cbv)
   replace h:=ite_f (Int.not_lt.2 e) h
   clear e
   try cbv
   replace h:=letB_inv h
   obtain⟨b36,hz,h⟩:=h
   refine⟨b36,not_eq' hz,?_⟩
   clear hz
   try cbv
   cases b36
   rotate_left
   ·replace h:=itT h
    try cbv
    exact join_next (n,true) [2,3,4,5,55] [.loc 0,.loc 32,.loc 256] 1728 ⟨by omega,h⟩ (by cbv)
   replace h:=itF h
   try cbv
   replace h:=bO1_inv h
   obtain⟨b37,hr,h⟩:=h
   refine call_go rfl rfl ?_
   try cbv
   refine call_pure hM hI (T125 _ hr) rfl ?_
   clear hr
   try cbv
   replace h:=letB_inv h
   obtain⟨b38,hz,h⟩:=h
   refine⟨b38,not_eq' hz,?_⟩
   clear hz
   try cbv
   cases b38
   rotate_left
   ·replace h:=itT h
    try cbv
    exact join_next (n,true) [2,3,4,5,55] [.loc 0,.loc 32,.loc 256] 1728 ⟨by omega,h⟩ (by cbv)
   replace h:=itF h
   try cbv
   replace h:=bO1_inv h
   obtain⟨b39,hr,h⟩:=h
   refine call_go rfl rfl ?_
   try cbv
   refine call_pure hM hI (T145 _ hr) rfl ?_
   clear hr
   try cbv
   replace h:=letB_inv h
   obtain⟨b40,hz,h⟩:=h
   refine⟨b40,not_eq' hz,?_⟩
   clear hz
   try cbv
   cases b40
   rotate_left
   ·replace h:=itT h
    try cbv
    exact join_next (n,true) [2,3,4,5,55] [.loc 0,.loc 32,.loc 256] 1728 ⟨by omega,h⟩ (by cbv)
   replace h:=itF h
   try cbv
   replace h:=bO1_inv h
   obtain⟨b41,hr,h⟩:=h
   refine call_go rfl rfl ?_
   try cbv
   refine call_pure hM hI (T145 _ hr) rfl ?_
   clear hr
   try cbv
   replace h:=letB_inv h
   obtain⟨b42,hz,h⟩:=h
   refine⟨b42,not_eq' hz,?_⟩
   clear hz
   try cbv
   cases b42
   rotate_left
   ·replace h:=itT h
    try cbv
    exact join_next (n,true) [2,3,4,5,55] [.loc 0,.loc 32,.loc 256] 1728 ⟨by omega,h⟩ (by cbv)
   replace h:=itF h
   try cbv
   replace h:=lenF_inv M h
   obtain⟨z43,hz,h⟩:=h
   refine⟨z43,hz,?_⟩
   clear hz
   try cbv
   refine splitI (fun e=>?_) (fun e=>?_)
   ·replace h:=ite_t e h
    clear e
    try cbv
    replace h:=bO1_inv h
    obtain⟨b44,hr,h⟩:=h
    refine call_go rfl rfl ?_
    try cbv
    refine call_pure hM hI (T93x1 _ hr) rfl ?_
    clear hr
    try cbv
    replace h:=letB_inv h
    obtain⟨b45,hz,h⟩:=h
    refine⟨b45,not_eq' hz,?_⟩
    clear hz
    try cbv
    exact join_next (n,b45) [2,3,4,5,55] [.loc 0,.loc 32,.loc 256] 1728 ⟨by omega,h⟩ (by cbv)
   replace h:=ite_f e h
   clear e
   try cbv
   exact join_next (n,true) [2,3,4,5,55] [.loc 0,.loc 32,.loc 256] 1728 ⟨by omega,h⟩ (by cbv)
  clear h
  rintro⟨m1,b46⟩ ⟨hm1,h⟩
  replace hm1:m1<=n:=hm1
  obtain _ | m1:=m1
  ·replace h:L77_1 0 z5 s6 l7 s9 l10 l11 l12 l13 l14 z16 z17 z18 b19 b20 b21 b22 b46=some r1:=h
   rw[L77_1]at h
   cases h
  replace h:L77_1 (m1+1) z5 s6 l7 s9 l10 l11 l12 l13 l14 z16 z17 z18 b19 b20 b21 b22 b46=some r1:=h
  rw[L77_1]at h
  try cbv
  cases b46
  rotate_left
  ·replace h:=itT h
   try cbv
   refine seq_go ?_
   try cbv
   obtain rfl:=Option.some.inj h
   refine fin_go ?_
   try cbv
   exact⟨[],by trivial⟩
  replace h:=itF h
  try cbv
  refine seq_go ?_
  try cbv
  refine seq_join (T:=Nat×Bool) (fun t=>⟨[sL 2 0,sL 3 32,sB 4 false,sL 5 256,sB 93 t.2],[(.loc 0,.cells [.d (.int .u8 z1),.d (.str s2),.d (.str s3),.d (.list false 1 l4),.d (.int .u8 z5),.d (.str s6),.d (.list true 3 l7),.d (.int .i64 z8),.d (.str s9),.d (.list false 1 l10),.d (.list true 8 l11),.d (.list true 15 l12),.d (.list true 15 l13),.d (.list true 3 l14),.d (.int .i64 z15)]),(.loc 32,.cells [.d (.int .i64 z16)]),(.loc 256,.cells [.d (.int .i64 z17),.d (.int .i64 z18),.d (.bool false),.d (.bool b19),.d (.bool b20),.d (.bool b21),.d (.bool false),.d (.bool b22),.fn 145 [],.fn 145 []])],2944⟩) (fun t=>t.1<=m1/\L77_2 t.1 l11 l12 l13 l14 z16 z17 z18 b19 b20 b21 b22 t.2=some r1) ?_ ?_
  ·try cbv
   replace h:=letF_inv h
   obtain⟨z47,hz,h⟩:=h
   refine⟨z47,hz,?_⟩
   clear hz
   try cbv
   replace h:=bO1_inv h
   obtain⟨b48,hr,h⟩:=h
   first | refine .inr (.inl ⟨[],?_⟩) | refine .inl ⟨[],?_⟩
   try cbv
   refine call_pure hM hI (T55 _ hr) rfl ?_
   clear hr
   try cbv
   replace h:=letB_inv h
   obtain⟨b49,hz,h⟩:=h
   refine⟨b49,eqv_ne hz,?_⟩
   clear hz
   try cbv
   cases b49
   rotate_left
   ·replace h:=itT h
    try cbv
    refine drawn ?_ ?_
    ·show _=true
     kernel_rfl
    try cbv
    exact join_next (m1,true) [2,3,4,5,93] [.loc 0,.loc 32,.loc 256] 2944 ⟨by omega,h⟩ (by cbv)
   replace h:=itF h
   try cbv
   refine⟨true,rfl,?_⟩
   try cbv
   replace h:=bO1_inv h
   obtain⟨b50,hr,h⟩:=h
   first | refine .inr (.inl ⟨[],?_⟩) | refine .inl ⟨[],?_⟩
   try cbv
   refine call_pure hM hI (T72 _ hr) rfl ?_
   clear hr
   try cbv
   replace h:=letB_inv h
   obtain⟨b51,hz,h⟩:=h
   refine⟨b51,not_eq' hz,?_⟩
   clear hz
   try cbv
   cases b51
   rotate_left
   ·replace h:=itT h
    try cbv
    refine drawn ?_ ?_
    ·show _=true
     kernel_rfl
    try cbv
    exact join_next (m1,true) [2,3,4,5,93] [.loc 0,.loc 32,.loc 256] 2944 ⟨by omega,h⟩ (by cbv)
   replace h:=itF h
   try cbv
   replace h:=bO1_inv h
   obtain⟨b52,hr,h⟩:=h
   first | refine .inr (.inl ⟨[],?_⟩) | refine .inl ⟨[],?_⟩
   try cbv
   refine call_pure hM hI (T52 _ hr) rfl ?_
   clear hr
   try cbv
   replace h:=letB_inv h
   obtain⟨b53,hz,h⟩:=h
   refine⟨b53,eqv_ne hz,?_⟩
   clear hz
   try cbv
   cases b53
   rotate_left
   ·replace h:=itT h
    try cbv
    refine drawn ?_ ?_
    ·show _=true
     kernel_rfl
    try cbv
    exact join_next (m1,true) [2,3,4,5,93] [.loc 0,.loc 32,.loc 256] 2944 ⟨by omega,h⟩ (by cbv)
   replace h:=itF h
   try cbv
   replace h:=letB_inv h
   obtain⟨b54,hz,h⟩:=h
   refine⟨b54,not_eq' hz,?_⟩
   clear hz
   try cbv
   cases b54
   ·replace h:=itF h
    try cbv
    refine drawn ?_ ?_
    ·show _=true
     kernel_rfl
    try cbv
    exact join_next (m1,false) [2,3,4,5,93] [.loc 0,.loc 32,.loc 256] 2944 ⟨by omega,h⟩ (by cbv)
   replace h:=itT h
   try cbv
   replace h:=bO1_inv h
   obtain⟨b55,hr,h⟩:=h
   first | refine .inr (.inl ⟨[],?_⟩) | refine .inl ⟨[],?_⟩
   try cbv
   refine call_pure hM hI (T126 _ hr) rfl ?_
   clear hr
   try cbv
   replace h:=letB_inv h
   obtain⟨b56,hz,h⟩:=h
   refine⟨b56,not_eq' hz,?_⟩
   clear hz
   try cbv
   refine drawn ?_ ?_
   ·show _=true
    kernel_rfl
   try cbv
   exact join_next (m1,b56) [2,3,4,5,93] [.loc 0,.loc 32,.loc 256] 2944 ⟨by omega,h⟩ (by cbv)
  clear h
  rintro⟨m2,b57⟩ ⟨hm2,h⟩
  replace hm2:m2<=m1:=hm2
  obtain _ | m2:=m2
  ·replace h:L77_2 0 l11 l12 l13 l14 z16 z17 z18 b19 b20 b21 b22 b57=some r1:=h
   rw[L77_2]at h
   cases h
  replace h:L77_2 (m2+1) l11 l12 l13 l14 z16 z17 z18 b19 b20 b21 b22 b57=some r1:=h
  rw[L77_2]at h
  try cbv
  cases b57
  rotate_left
  ·replace h:=itT h
   try cbv
   refine seq_go ?_
   try cbv
   obtain rfl:=Option.some.inj h
   refine fin_go ?_
   try cbv
   exact⟨[],by trivial⟩
  replace h:=itF h
  try cbv
  refine seq_go ?_
  try cbv
  refine seq_join (T:=Nat×Bool) (fun t=>⟨[sL 2 0,sL 3 32,sB 4 false,sL 5 256,sB 124 t.2],[(.loc 0,.cells [.d (.int .u8 z1),.d (.str s2),.d (.str s3),.d (.list false 1 l4),.d (.int .u8 z5),.d (.str s6),.d (.list true 3 l7),.d (.int .i64 z8),.d (.str s9),.d (.list false 1 l10),.d (.list true 8 l11),.d (.list true 15 l12),.d (.list true 15 l13),.d (.list true 3 l14),.d (.int .i64 z15)]),(.loc 32,.cells [.d (.int .i64 z16)]),(.loc 256,.cells [.d (.int .i64 z17),.d (.int .i64 z18),.d (.bool false),.d (.bool b19),.d (.bool b20),.d (.bool b21),.d (.bool false),.d (.bool b22),.fn 145 [],.fn 145 []])],3936⟩) (fun t=>t.1<=m2/\L77_3 t.1 l11 l12 l13 l14 z16 z17 z18 b19 b20 b21 b22 t.2=some r1) ?_ ?_
  rotate_left
  ·clear h
   rintro⟨m3,b68⟩ ⟨hm3,h⟩
   replace hm3:m3<=m2:=hm3
   obtain _ | m3:=m3
   ·replace h:L77_3 0 l11 l12 l13 l14 z16 z17 z18 b19 b20 b21 b22 b68=some r1:=h
    rw[L77_3]at h
    cases h
   replace h:L77_3 (m3+1) l11 l12 l13 l14 z16 z17 z18 b19 b20 b21 b22 b68=some r1:=h
   rw[L77_3]at h
   try cbv
   cases b68
   rotate_left
   ·replace h:=itT h
    try cbv
    refine seq_go ?_
    try cbv
    obtain rfl:=Option.some.inj h
    refine fin_go ?_
    try cbv
    exact⟨[],by trivial⟩
   replace h:=itF h
   try cbv
   refine seq_go ?_
   try cbv
   refine seq_go ?_
   try cbv
   replace h:=bO10_inv h
   obtain⟨b69,z70,z71,b72,b73,b74,b75,b76,b77,z78,hr,h⟩:=h
   refine call_go rfl rfl ?_
   try cbv
   refine call_with hM hI [.loc 256,.loc 32] (T98x1 _ hr) rfl (by simp) ⟨rfl,⟨rfl,trivial⟩⟩ ⟨trivial,⟨trivial,trivial⟩⟩ (by simp) ?_
   clear hr
   try cbv
   cases b69
   ·replace h:=itF h
    try cbv
    obtain rfl:=Option.some.inj h
    refine fin_go ?_
    try cbv
    exact⟨[],by trivial⟩
   replace h:=itT h
   try cbv
   replace h:=lenF_inv M h
   obtain⟨z79,hz,h⟩:=h
   refine⟨z79,hz,?_⟩
   clear hz
   try cbv
   replace h:=bO2_inv h
   obtain⟨b80,z81,hr,h⟩:=h
   refine call_go rfl rfl ?_
   try cbv
   refine call_with hM hI [.loc 32] ((ih _ (by omega)).2.1 hr) rfl (by simp) ⟨rfl,trivial⟩ ⟨trivial,trivial⟩ (by simp) ?_
   clear hr
   try cbv
   cases b80
   ·replace h:=itF h
    try cbv
    obtain rfl:=Option.some.inj h
    refine fin_go ?_
    try cbv
    exact⟨[],by trivial⟩
   replace h:=itT h
   try cbv
   replace h:=lenF_inv M h
   obtain⟨z82,hz,h⟩:=h
   refine⟨z82,hz,?_⟩
   clear hz
   try cbv
   replace h:=bO2_inv h
   obtain⟨b83,z84,hr,h⟩:=h
   refine call_go rfl rfl ?_
   try cbv
   refine call_with hM hI [.loc 32] ((ih _ (by omega)).2.1 hr) rfl (by simp) ⟨rfl,trivial⟩ ⟨trivial,trivial⟩ (by simp) ?_
   clear hr
   try cbv
   cases b83
   ·replace h:=itF h
    try cbv
    obtain rfl:=Option.some.inj h
    refine fin_go ?_
    try cbv
    exact⟨[],by trivial⟩
   replace h:=itT h
   try cbv
   replace h:=bO2_inv h
   obtain⟨b85,z86,hr,h⟩:=h
   refine call_go rfl rfl ?_
   try cbv
   refine call_with hM hI [.loc 3968,.loc 32] ((ih _ (by omega)).2.2.2.1 hr) rfl (by simp) ⟨rfl,⟨rfl,trivial⟩⟩ ⟨trivial,⟨trivial,trivial⟩⟩ (by simp) ?_
   clear hr
   try cbv
   obtain rfl:=Option.some.inj h
   refine fin_go ?_
   try cbv
   exact⟨[],by trivial⟩
  try cbv
  replace h:=letB_inv h
  obtain⟨b58,hz,h⟩:=h
  refine⟨b58,not_eq' hz,?_⟩
  clear hz
  try cbv
  cases b58
  ·replace h:=itF h
   try cbv
   replace h:=letB_inv h
   obtain⟨b64,hz,h⟩:=h
   refine⟨b64,not_eq' hz,?_⟩
   clear hz
   try cbv
   cases b64
   ·replace h:=itF h
    try cbv
    refine⟨true,rfl,?_⟩
    try cbv
    replace h:=lenF_inv M h
    obtain⟨z67,hz,h⟩:=h
    refine⟨z67,hz,?_⟩
    clear hz
    try cbv
    refine splitL (fun e=>?_) (fun e=>?_)
    ·replace h:=ite_t e h
     clear e
     try cbv
     exact join_next (m2,true) [2,3,4,5,124] [.loc 0,.loc 32,.loc 256] 3936 ⟨by omega,h⟩ (by cbv)
    replace h:=ite_f (Int.not_lt.2 e) h
    clear e
    try cbv
    exact join_next (m2,false) [2,3,4,5,124] [.loc 0,.loc 32,.loc 256] 3936 ⟨by omega,h⟩ (by cbv)
   replace h:=itT h
   try cbv
   replace h:=lenF_inv M h
   obtain⟨z65,hz,h⟩:=h
   refine⟨z65,hz,?_⟩
   clear hz
   try cbv
   refine splitL (fun e=>?_) (fun e=>?_)
   ·replace h:=ite_t e h
    clear e
    try cbv
    exact join_next (m2,true) [2,3,4,5,124] [.loc 0,.loc 32,.loc 256] 3936 ⟨by omega,h⟩ (by cbv)
   replace h:=ite_f (Int.not_lt.2 e) h
   clear e
   try cbv
   refine⟨true,rfl,?_⟩
   try cbv
   replace h:=lenF_inv M h
   obtain⟨z66,hz,h⟩:=h
   refine⟨z66,hz,?_⟩
   clear hz
   try cbv
   refine splitL (fun e=>?_) (fun e=>?_)
   ·replace h:=ite_t e h
    clear e
    try cbv
    exact join_next (m2,true) [2,3,4,5,124] [.loc 0,.loc 32,.loc 256] 3936 ⟨by omega,h⟩ (by cbv)
   replace h:=ite_f (Int.not_lt.2 e) h
   clear e
   try cbv
   exact join_next (m2,false) [2,3,4,5,124] [.loc 0,.loc 32,.loc 256] 3936 ⟨by omega,h⟩ (by cbv)
  replace h:=itT h
  try cbv
  replace h:=lenF_inv M h
  obtain⟨z59,hz,h⟩:=h
  refine⟨z59,hz,?_⟩
  clear hz
  try cbv
  refine splitL (fun e=>?_) (fun e=>?_)
  ·replace h:=ite_t e h
   clear e
   try cbv
   exact join_next (m2,true) [2,3,4,5,124] [.loc 0,.loc 32,.loc 256] 3936 ⟨by omega,h⟩ (by cbv)
  replace h:=ite_f (Int.not_lt.2 e) h
  clear e
  try cbv
  replace h:=letB_inv h
  obtain⟨b60,hz,h⟩:=h
  refine⟨b60,not_eq' hz,?_⟩
  clear hz
  try cbv
  cases b60
  ·replace h:=itF h
   try cbv
   refine⟨true,rfl,?_⟩
   try cbv
   replace h:=lenF_inv M h
   obtain⟨z63,hz,h⟩:=h
   refine⟨z63,hz,?_⟩
   clear hz
   try cbv
   refine splitL (fun e=>?_) (fun e=>?_)
   ·replace h:=ite_t e h
    clear e
    try cbv
    exact join_next (m2,true) [2,3,4,5,124] [.loc 0,.loc 32,.loc 256] 3936 ⟨by omega,h⟩ (by cbv)
   replace h:=ite_f (Int.not_lt.2 e) h
   clear e
   try cbv
   exact join_next (m2,false) [2,3,4,5,124] [.loc 0,.loc 32,.loc 256] 3936 ⟨by omega,h⟩ (by cbv)
  replace h:=itT h
  try cbv
  replace h:=lenF_inv M h
  obtain⟨z61,hz,h⟩:=h
  refine⟨z61,hz,?_⟩
  clear hz
  try cbv
  refine splitL (fun e=>?_) (fun e=>?_)
  ·replace h:=ite_t e h
   clear e
   try cbv
   exact join_next (m2,true) [2,3,4,5,124] [.loc 0,.loc 32,.loc 256] 3936 ⟨by omega,h⟩ (by cbv)
  replace h:=ite_f (Int.not_lt.2 e) h
  clear e
  try cbv
  refine⟨true,rfl,?_⟩
  try cbv
  replace h:=lenF_inv M h
  obtain⟨z62,hz,h⟩:=h
  refine⟨z62,hz,?_⟩
  clear hz
  try cbv
  refine splitL (fun e=>?_) (fun e=>?_)
  ·replace h:=ite_t e h
   clear e
   try cbv
   exact join_next (m2,true) [2,3,4,5,124] [.loc 0,.loc 32,.loc 256] 3936 ⟨by omega,h⟩ (by cbv)
  replace h:=ite_f (Int.not_lt.2 e) h
  clear e
  try cbv
  exact join_next (m2,false) [2,3,4,5,124] [.loc 0,.loc 32,.loc 256] 3936 ⟨by omega,h⟩ (by cbv)
 replace h:=bS_inv h
 rcases h with⟨p30,hr2,h⟩ | ⟨q31,hr2,h⟩
 ·obtain rfl:=Option.some.inj hr2
  replace h:=bO4_inv h
  obtain⟨z24,b25,b26,b27,hp,h⟩:=h
  obtain rfl:=Option.some.inj hp
  clear hp
  refine call_go rfl rfl ?_
  try cbv
  refine call_pure hM hI (T124 _ hr (fun r p n=>r= .t [.agg [.d (.int .i64 0),.d (.int .i64 z24),.d (.bool false),.d (.bool b25),.d (.bool b26),.d (.bool false),.d (.bool false),.d (.bool b27),.fn 74 [],.fn 145 []],.d (.bool true)]/\p=[]/\n=[]) ⟨rfl,rfl,rfl⟩:Trip _ _ _ _ _ (.t [.agg [.d (.int .i64 0),.d (.int .i64 z24),.d (.bool false),.d (.bool b25),.d (.bool b26),.d (.bool false),.d (.bool false),.d (.bool b27),.fn 74 [],.fn 145 []],.d (.bool true)]) [] []) rfl ?_
  clear hr
  try cbv
  refine seq_go ?_
  try cbv
  refine seq_join (T:=Nat×Bool) (fun t=>⟨[sL 2 0,sL 3 32,sB 4 false,sL 5 256,sB 55 t.2],[(.loc 0,.cells [.d (.int .u8 z1),.d (.str s2),.d (.str s3),.d (.list false 1 l4),.d (.int .u8 z5),.d (.str s6),.d (.list true 3 l7),.d (.int .i64 z8),.d (.str s9),.d (.list false 1 l10),.d (.list true 8 l11),.d (.list true 15 l12),.d (.list true 15 l13),.d (.list true 3 l14),.d (.int .i64 z15)]),(.loc 32,.cells [.d (.int .i64 z16)]),(.loc 256,.cells [.d (.int .i64 0),.d (.int .i64 z24),.d (.bool false),.d (.bool b25),.d (.bool b26),.d (.bool false),.d (.bool false),.d (.bool b27),.fn 74 [],.fn 145 []])],1728⟩) (fun t=>t.1<=n/\L77_4 t.1 z5 s6 l7 s9 l10 l11 l12 l13 l14 z16 z24 b25 b26 b27 t.2=some r1) ?_ ?_
  ·try cbv
   refine splitL (fun e=>?_) (fun e=>?_)
   ·replace h:=ite_t e h
    clear e
    try cbv
    exact join_next (n,true) [2,3,4,5,55] [.loc 0,.loc 32,.loc 256] 1728 ⟨by omega,h⟩ (by cbv)
   replace h:=ite_f (Int.not_lt.2 e) h
   clear e
   try cbv
   refine⟨false,rfl,?_⟩
   try cbv
   replace h:=bO1_inv h
   obtain⟨b87,hr,h⟩:=h
   refine call_go rfl rfl ?_
   try cbv
   refine call_pure hM hI (T125 _ hr) rfl ?_
   clear hr
   try cbv
   replace h:=letB_inv h
   obtain⟨b88,hz,h⟩:=h
   refine⟨b88,not_eq' hz,?_⟩
   clear hz
   try cbv
   cases b88
   rotate_left
   ·replace h:=itT h
    try cbv
    exact join_next (n,true) [2,3,4,5,55] [.loc 0,.loc 32,.loc 256] 1728 ⟨by omega,h⟩ (by cbv)
   replace h:=itF h
   try cbv
   replace h:=bO1_inv h
   obtain⟨b89,hr,h⟩:=h
   refine call_go rfl rfl ?_
   try cbv
   refine call_pure hM hI (T74 _ hr) rfl ?_
   clear hr
   try cbv
   replace h:=letB_inv h
   obtain⟨b90,hz,h⟩:=h
   refine⟨b90,not_eq' hz,?_⟩
   clear hz
   try cbv
   cases b90
   rotate_left
   ·replace h:=itT h
    try cbv
    exact join_next (n,true) [2,3,4,5,55] [.loc 0,.loc 32,.loc 256] 1728 ⟨by omega,h⟩ (by cbv)
   replace h:=itF h
   try cbv
   replace h:=bO1_inv h
   obtain⟨b91,hr,h⟩:=h
   refine call_go rfl rfl ?_
   try cbv
   refine call_pure hM hI (T145 _ hr) rfl ?_
   clear hr
   try cbv
   replace h:=letB_inv h
   obtain⟨b92,hz,h⟩:=h
   refine⟨b92,not_eq' hz,?_⟩
   clear hz
   try cbv
   cases b92
   rotate_left
   ·replace h:=itT h
    try cbv
    exact join_next (n,true) [2,3,4,5,55] [.loc 0,.loc 32,.loc 256] 1728 ⟨by omega,h⟩ (by cbv)
   replace h:=itF h
   try cbv
   replace h:=lenF_inv M h
   obtain⟨z93,hz,h⟩:=h
   refine⟨z93,hz,?_⟩
   clear hz
   try cbv
   refine splitI (fun e=>?_) (fun e=>?_)
   ·replace h:=ite_t e h
    clear e
    try cbv
    replace h:=bO1_inv h
    obtain⟨b94,hr,h⟩:=h
    refine call_go rfl rfl ?_
    try cbv
    refine call_pure hM hI (T93x1 _ hr) rfl ?_
    clear hr
    try cbv
    replace h:=letB_inv h
    obtain⟨b95,hz,h⟩:=h
    refine⟨b95,not_eq' hz,?_⟩
    clear hz
    try cbv
    exact join_next (n,b95) [2,3,4,5,55] [.loc 0,.loc 32,.loc 256] 1728 ⟨by omega,h⟩ (by cbv)
   replace h:=ite_f e h
   clear e
   try cbv
   exact join_next (n,true) [2,3,4,5,55] [.loc 0,.loc 32,.loc 256] 1728 ⟨by omega,h⟩ (by cbv)
  clear h
  rintro⟨m4,b96⟩ ⟨hm4,h⟩
  replace hm4:m4<=n:=hm4
  obtain _ | m4:=m4
  ·replace h:L77_4 0 z5 s6 l7 s9 l10 l11 l12 l13 l14 z16 z24 b25 b26 b27 b96=some r1:=h
   rw[L77_4]at h
   cases h
  replace h:L77_4 (m4+1) z5 s6 l7 s9 l10 l11 l12 l13 l14 z16 z24 b25 b26 b27 b96=some r1:=h
  rw[L77_4]at h
  try cbv
  cases b96
  rotate_left
  ·replace h:=itT h
   try cbv
   refine seq_go ?_
   try cbv
   obtain rfl:=Option.some.inj h
   refine fin_go ?_
   try cbv
   exact⟨[],by trivial⟩
  replace h:=itF h
  try cbv
  refine seq_go ?_
  try cbv
  refine seq_join (T:=Nat×Bool) (fun t=>⟨[sL 2 0,sL 3 32,sB 4 false,sL 5 256,sB 93 t.2],[(.loc 0,.cells [.d (.int .u8 z1),.d (.str s2),.d (.str s3),.d (.list false 1 l4),.d (.int .u8 z5),.d (.str s6),.d (.list true 3 l7),.d (.int .i64 z8),.d (.str s9),.d (.list false 1 l10),.d (.list true 8 l11),.d (.list true 15 l12),.d (.list true 15 l13),.d (.list true 3 l14),.d (.int .i64 z15)]),(.loc 32,.cells [.d (.int .i64 z16)]),(.loc 256,.cells [.d (.int .i64 0),.d (.int .i64 z24),.d (.bool false),.d (.bool b25),.d (.bool b26),.d (.bool false),.d (.bool false),.d (.bool b27),.fn 74 [],.fn 145 []])],2944⟩) (fun t=>t.1<=m4/\L77_5 t.1 l11 l12 l13 l14 z16 z24 b25 b26 b27 t.2=some r1) ?_ ?_
  ·try cbv
   replace h:=letF_inv h
   obtain⟨z97,hz,h⟩:=h
   refine⟨z97,hz,?_⟩
   clear hz
   try cbv
   replace h:=bO1_inv h
   obtain⟨b98,hr,h⟩:=h
   first | refine .inr (.inl ⟨[],?_⟩) | refine .inl ⟨[],?_⟩
   try cbv
   refine call_pure hM hI (T55 _ hr) rfl ?_
   clear hr
   try cbv
   replace h:=letB_inv h
   obtain⟨b99,hz,h⟩:=h
   refine⟨b99,eqv_ne hz,?_⟩
   clear hz
   try cbv
   cases b99
   rotate_left
   ·replace h:=itT h
    try cbv
    refine drawn ?_ ?_
    ·show _=true
     kernel_rfl
    try cbv
    exact join_next (m4,true) [2,3,4,5,93] [.loc 0,.loc 32,.loc 256] 2944 ⟨by omega,h⟩ (by cbv)
   replace h:=itF h
   try cbv
   refine⟨true,rfl,?_⟩
   try cbv
   replace h:=bO1_inv h
   obtain⟨b100,hr,h⟩:=h
   first | refine .inr (.inl ⟨[],?_⟩) | refine .inl ⟨[],?_⟩
   try cbv
   refine call_pure hM hI (T72 _ hr) rfl ?_
   clear hr
   try cbv
   replace h:=letB_inv h
   obtain⟨b101,hz,h⟩:=h
   refine⟨b101,not_eq' hz,?_⟩
   clear hz
   try cbv
   cases b101
   rotate_left
   ·replace h:=itT h
    try cbv
    refine drawn ?_ ?_
    ·show _=true
     kernel_rfl
    try cbv
    exact join_next (m4,true) [2,3,4,5,93] [.loc 0,.loc 32,.loc 256] 2944 ⟨by omega,h⟩ (by cbv)
   replace h:=itF h
   try cbv
   replace h:=bO1_inv h
   obtain⟨b102,hr,h⟩:=h
   first | refine .inr (.inl ⟨[],?_⟩) | refine .inl ⟨[],?_⟩
   try cbv
   refine call_pure hM hI (T52 _ hr) rfl ?_
   clear hr
   try cbv
   replace h:=letB_inv h
   obtain⟨b103,hz,h⟩:=h
   refine⟨b103,eqv_ne hz,?_⟩
   clear hz
   try cbv
   cases b103
   rotate_left
   ·replace h:=itT h
    try cbv
    refine drawn ?_ ?_
    ·show _=true
     kernel_rfl
    try cbv
    exact join_next (m4,true) [2,3,4,5,93] [.loc 0,.loc 32,.loc 256] 2944 ⟨by omega,h⟩ (by cbv)
   replace h:=itF h
   try cbv
   replace h:=letB_inv h
   obtain⟨b104,hz,h⟩:=h
   refine⟨b104,not_eq' hz,?_⟩
   clear hz
   try cbv
   cases b104
   ·replace h:=itF h
    try cbv
    refine drawn ?_ ?_
    ·show _=true
     kernel_rfl
    try cbv
    exact join_next (m4,false) [2,3,4,5,93] [.loc 0,.loc 32,.loc 256] 2944 ⟨by omega,h⟩ (by cbv)
   replace h:=itT h
   try cbv
   replace h:=bO1_inv h
   obtain⟨b105,hr,h⟩:=h
   first | refine .inr (.inl ⟨[],?_⟩) | refine .inl ⟨[],?_⟩
   try cbv
   refine call_pure hM hI (T126 _ hr) rfl ?_
   clear hr
   try cbv
   replace h:=letB_inv h
   obtain⟨b106,hz,h⟩:=h
   refine⟨b106,not_eq' hz,?_⟩
   clear hz
   try cbv
   refine drawn ?_ ?_
   ·show _=true
    kernel_rfl
   try cbv
   exact join_next (m4,b106) [2,3,4,5,93] [.loc 0,.loc 32,.loc 256] 2944 ⟨by omega,h⟩ (by cbv)
  clear h
  rintro⟨m5,b107⟩ ⟨hm5,h⟩
  replace hm5:m5<=m4:=hm5
  obtain _ | m5:=m5
  ·replace h:L77_5 0 l11 l12 l13 l14 z16 z24 b25 b26 b27 b107=some r1:=h
   rw[L77_5]at h
   cases h
  replace h:L77_5 (m5+1) l11 l12 l13 l14 z16 z24 b25 b26 b27 b107=some r1:=h
  rw[L77_5]at h
  try cbv
  cases b107
  rotate_left
  ·replace h:=itT h
   try cbv
   refine seq_go ?_
   try cbv
   obtain rfl:=Option.some.inj h
   refine fin_go ?_
   try cbv
   exact⟨[],by trivial⟩
  replace h:=itF h
  try cbv
  refine seq_go ?_
  try cbv
  refine seq_join (T:=Nat×Bool) (fun t=>⟨[sL 2 0,sL 3 32,sB 4 false,sL 5 256,sB 124 t.2],[(.loc 0,.cells [.d (.int .u8 z1),.d (.str s2),.d (.str s3),.d (.list false 1 l4),.d (.int .u8 z5),.d (.str s6),.d (.list true 3 l7),.d (.int .i64 z8),.d (.str s9),.d (.list false 1 l10),.d (.list true 8 l11),.d (.list true 15 l12),.d (.list true 15 l13),.d (.list true 3 l14),.d (.int .i64 z15)]),(.loc 32,.cells [.d (.int .i64 z16)]),(.loc 256,.cells [.d (.int .i64 0),.d (.int .i64 z24),.d (.bool false),.d (.bool b25),.d (.bool b26),.d (.bool false),.d (.bool false),.d (.bool b27),.fn 74 [],.fn 145 []])],3936⟩) (fun t=>t.1<=m5/\L77_6 t.1 l11 l12 l13 l14 z16 z24 b25 b26 b27 t.2=some r1) ?_ ?_
  ·try cbv
   replace h:=letB_inv h
   obtain⟨b108,hz,h⟩:=h
   refine⟨b108,not_eq' hz,?_⟩
   clear hz
   try cbv
   cases b108
   ·replace h:=itF h
    try cbv
    refine⟨true,rfl,?_⟩
    try cbv
    replace h:=lenF_inv M h
    obtain⟨z112,hz,h⟩:=h
    refine⟨z112,hz,?_⟩
    clear hz
    try cbv
    refine splitL (fun e=>?_) (fun e=>?_)
    ·replace h:=ite_t e h
     clear e
     try cbv
     exact join_next (m5,true) [2,3,4,5,124] [.loc 0,.loc 32,.loc 256] 3936 ⟨by omega,h⟩ (by cbv)
    replace h:=ite_f (Int.not_lt.2 e) h
    clear e
    try cbv
    refine⟨true,rfl,?_⟩
    try cbv
    replace h:=lenF_inv M h
    obtain⟨z113,hz,h⟩:=h
    refine⟨z113,hz,?_⟩
    clear hz
    try cbv
    refine splitL (fun e=>?_) (fun e=>?_)
    ·replace h:=ite_t e h
     clear e
     try cbv
     exact join_next (m5,true) [2,3,4,5,124] [.loc 0,.loc 32,.loc 256] 3936 ⟨by omega,h⟩ (by cbv)
    replace h:=ite_f (Int.not_lt.2 e) h
    clear e
    try cbv
    exact join_next (m5,false) [2,3,4,5,124] [.loc 0,.loc 32,.loc 256] 3936 ⟨by omega,h⟩ (by cbv)
   replace h:=itT h
   try cbv
   replace h:=lenF_inv M h
   obtain⟨z109,hz,h⟩:=h
   refine⟨z109,hz,?_⟩
   clear hz
   try cbv
   refine splitL (fun e=>?_) (fun e=>?_)
   ·replace h:=ite_t e h
    clear e
    try cbv
    exact join_next (m5,true) [2,3,4,5,124] [.loc 0,.loc 32,.loc 256] 3936 ⟨by omega,h⟩ (by cbv)
   replace h:=ite_f (Int.not_lt.2 e) h
   clear e
   try cbv
   refine⟨true,rfl,?_⟩
   try cbv
   replace h:=lenF_inv M h
   obtain⟨z110,hz,h⟩:=h
   refine⟨z110,hz,?_⟩
   clear hz
   try cbv
   refine splitL (fun e=>?_) (fun e=>?_)
   ·replace h:=ite_t e h
    clear e
    try cbv
    exact join_next (m5,true) [2,3,4,5,124] [.loc 0,.loc 32,.loc 256] 3936 ⟨by omega,h⟩ (by cbv)
   replace h:=ite_f (Int.not_lt.2 e) h
   clear e
   try cbv
   refine⟨true,rfl,?_⟩
   try cbv
   replace h:=lenF_inv M h
   obtain⟨z111,hz,h⟩:=h
   refine⟨z111,hz,?_⟩
   clear hz
   try cbv
   refine splitL (fun e=>?_) (fun e=>?_)
   ·replace h:=ite_t e h
    clear e
    try cbv
    exact join_next (m5,true) [2,3,4,5,124] [.loc 0,.loc 32,.loc 256] 3936 ⟨by omega,h⟩ (by cbv)
   replace h:=ite_f (Int.not_lt.2 e) h
   clear e
   try cbv
   exact join_next (m5,false) [2,3,4,5,124] [.loc 0,.loc 32,.loc 256] 3936 ⟨by omega,h⟩ (by cbv)
  clear h
  rintro⟨m6,b114⟩ ⟨hm6,h⟩
  replace hm6:m6<=m5:=hm6
  obtain _ | m6:=m6
  ·replace h:L77_6 0 l11 l12 l13 l14 z16 z24 b25 b26 b27 b114=some r1:=h
   rw[L77_6]at h
   cases h
  replace h:L77_6 (m6+1) l11 l12 l13 l14 z16 z24 b25 b26 b27 b114=some r1:=h
  rw[L77_6]at h
  try cbv
  cases b114
  rotate_left
  ·replace h:=itT h
   try cbv
   refine seq_go ?_
   try cbv
   obtain rfl:=Option.some.inj h
   refine fin_go ?_
   try cbv
   exact⟨[],by trivial⟩
  replace h:=itF h
  try cbv
  refine seq_go ?_
  try cbv
  refine seq_go ?_
  try cbv
  replace h:=bO10_inv h
  obtain⟨b115,z116,z117,b118,b119,b120,b121,b122,b123,z124,hr,h⟩:=h
  refine call_go rfl rfl ?_
  try cbv
  refine call_with hM hI [.loc 256,.loc 32] (T98x2 _ hr) rfl (by simp) ⟨rfl,⟨rfl,trivial⟩⟩ ⟨trivial,⟨trivial,trivial⟩⟩ (by simp) ?_
  clear hr
  try cbv
  cases b115
  ·replace h:=itF h
   try cbv
   obtain rfl:=Option.some.inj h
   refine fin_go ?_
   try cbv
   exact⟨[],by trivial⟩
  replace h:=itT h
  try cbv
  replace h:=lenF_inv M h
  obtain⟨z125,hz,h⟩:=h
  refine⟨z125,hz,?_⟩
  clear hz
  try cbv
  replace h:=bO2_inv h
  obtain⟨b126,z127,hr,h⟩:=h
  refine call_go rfl rfl ?_
  try cbv
  refine call_with hM hI [.loc 32] ((ih _ (by omega)).2.1 hr) rfl (by simp) ⟨rfl,trivial⟩ ⟨trivial,trivial⟩ (by simp) ?_
  clear hr
  try cbv
  cases b126
  ·replace h:=itF h
   try cbv
   obtain rfl:=Option.some.inj h
   refine fin_go ?_
   try cbv
   exact⟨[],by trivial⟩
  replace h:=itT h
  try cbv
  replace h:=lenF_inv M h
  obtain⟨z128,hz,h⟩:=h
  refine⟨z128,hz,?_⟩
  clear hz
  try cbv
  replace h:=bO2_inv h
  obtain⟨b129,z130,hr,h⟩:=h
  refine call_go rfl rfl ?_
  try cbv
  refine call_with hM hI [.loc 32] ((ih _ (by omega)).2.1 hr) rfl (by simp) ⟨rfl,trivial⟩ ⟨trivial,trivial⟩ (by simp) ?_
  clear hr
  try cbv
  cases b129
  ·replace h:=itF h
   try cbv
   obtain rfl:=Option.some.inj h
   refine fin_go ?_
   try cbv
   exact⟨[],by trivial⟩
  replace h:=itT h
  try cbv
  replace h:=bO2_inv h
  obtain⟨b131,z132,hr,h⟩:=h
  refine call_go rfl rfl ?_
  try cbv
  refine call_with hM hI [.loc 3968,.loc 32] ((ih _ (by omega)).2.2.2.1 hr) rfl (by simp) ⟨rfl,⟨rfl,trivial⟩⟩ ⟨trivial,⟨trivial,trivial⟩⟩ (by simp) ?_
  clear hr
  try cbv
  obtain rfl:=Option.some.inj h
  refine fin_go ?_
  try cbv
  exact⟨[],by trivial⟩
 obtain rfl:=Option.some.inj hr2
 skip
 replace h:=bS_inv h
 rcases h with⟨_,hr2,h⟩ | ⟨q33,hr2,h⟩
 ·obtain rfl:=Option.some.inj hr2
  refine call_go rfl rfl ?_
  try cbv
  refine call_pure hM hI (T124 _ hr (fun r p n=>r= .t [.agg [.d (.int .i64 6),.d (.int .i64 1),.d (.bool false),.d (.bool false),.d (.bool false),.d (.bool false),.d (.bool false),.d (.bool false),.fn 73 [],.fn 145 []],.d (.bool true)]/\p=[]/\n=[]) ⟨rfl,rfl,rfl⟩:Trip _ _ _ _ _ (.t [.agg [.d (.int .i64 6),.d (.int .i64 1),.d (.bool false),.d (.bool false),.d (.bool false),.d (.bool false),.d (.bool false),.d (.bool false),.fn 73 [],.fn 145 []],.d (.bool true)]) [] []) rfl ?_
  clear hr
  try cbv
  refine seq_go ?_
  try cbv
  refine seq_join (T:=Nat×Bool) (fun t=>⟨[sL 2 0,sL 3 32,sB 4 false,sL 5 256,sB 55 t.2],[(.loc 0,.cells [.d (.int .u8 z1),.d (.str s2),.d (.str s3),.d (.list false 1 l4),.d (.int .u8 z5),.d (.str s6),.d (.list true 3 l7),.d (.int .i64 z8),.d (.str s9),.d (.list false 1 l10),.d (.list true 8 l11),.d (.list true 15 l12),.d (.list true 15 l13),.d (.list true 3 l14),.d (.int .i64 z15)]),(.loc 32,.cells [.d (.int .i64 z16)]),(.loc 256,.cells [.d (.int .i64 6),.d (.int .i64 1),.d (.bool false),.d (.bool false),.d (.bool false),.d (.bool false),.d (.bool false),.d (.bool false),.fn 73 [],.fn 145 []])],1728⟩) (fun t=>t.1<=n/\L77_7 t.1 z5 s6 l7 s9 l10 l11 l12 l13 l14 z16 t.2=some r1) ?_ ?_
  ·try cbv
   refine splitL (fun e=>?_) (fun e=>?_)
   ·replace h:=ite_t e h
    clear e
    try cbv
    exact join_next (n,true) [2,3,4,5,55] [.loc 0,.loc 32,.loc 256] 1728 ⟨by omega,h⟩ (by cbv)
   replace h:=ite_f (Int.not_lt.2 e) h
   clear e
   try cbv
   refine⟨false,rfl,?_⟩
   try cbv
   replace h:=bO1_inv h
   obtain⟨b133,hr,h⟩:=h
   refine call_go rfl rfl ?_
   try cbv
   refine call_pure hM hI (T125 _ hr) rfl ?_
   clear hr
   try cbv
   replace h:=letB_inv h
   obtain⟨b134,hz,h⟩:=h
   refine⟨b134,not_eq' hz,?_⟩
   clear hz
   try cbv
   cases b134
   rotate_left
   ·replace h:=itT h
    try cbv
    exact join_next (n,true) [2,3,4,5,55] [.loc 0,.loc 32,.loc 256] 1728 ⟨by omega,h⟩ (by cbv)
   replace h:=itF h
   try cbv
   replace h:=bO1_inv h
   obtain⟨b135,hr,h⟩:=h
   refine call_go rfl rfl ?_
   try cbv
   refine call_pure hM hI (T73 _ hr) rfl ?_
   clear hr
   try cbv
   replace h:=letB_inv h
   obtain⟨b136,hz,h⟩:=h
   refine⟨b136,not_eq' hz,?_⟩
   clear hz
   try cbv
   cases b136
   rotate_left
   ·replace h:=itT h
    try cbv
    exact join_next (n,true) [2,3,4,5,55] [.loc 0,.loc 32,.loc 256] 1728 ⟨by omega,h⟩ (by cbv)
   replace h:=itF h
   try cbv
   replace h:=bO1_inv h
   obtain⟨b137,hr,h⟩:=h
   refine call_go rfl rfl ?_
   try cbv
   refine call_pure hM hI (T145 _ hr) rfl ?_
   clear hr
   try cbv
   replace h:=letB_inv h
   obtain⟨b138,hz,h⟩:=h
   refine⟨b138,not_eq' hz,?_⟩
   clear hz
   try cbv
   cases b138
   rotate_left
   ·replace h:=itT h
    try cbv
    exact join_next (n,true) [2,3,4,5,55] [.loc 0,.loc 32,.loc 256] 1728 ⟨by omega,h⟩ (by cbv)
   replace h:=itF h
   try cbv
   replace h:=lenF_inv M h
   obtain⟨z139,hz,h⟩:=h
   refine⟨z139,hz,?_⟩
   clear hz
   try cbv
   refine splitI (fun e=>?_) (fun e=>?_)
   ·replace h:=ite_t e h
    clear e
    try cbv
    replace h:=bO1_inv h
    obtain⟨b140,hr,h⟩:=h
    refine call_go rfl rfl ?_
    try cbv
    refine call_pure hM hI (T93x1 _ hr) rfl ?_
    clear hr
    try cbv
    replace h:=letB_inv h
    obtain⟨b141,hz,h⟩:=h
    refine⟨b141,not_eq' hz,?_⟩
    clear hz
    try cbv
    exact join_next (n,b141) [2,3,4,5,55] [.loc 0,.loc 32,.loc 256] 1728 ⟨by omega,h⟩ (by cbv)
   replace h:=ite_f e h
   clear e
   try cbv
   exact join_next (n,true) [2,3,4,5,55] [.loc 0,.loc 32,.loc 256] 1728 ⟨by omega,h⟩ (by cbv)
  clear h
  rintro⟨m7,b142⟩ ⟨hm7,h⟩
  replace hm7:m7<=n:=hm7
  obtain _ | m7:=m7
  ·replace h:L77_7 0 z5 s6 l7 s9 l10 l11 l12 l13 l14 z16 b142=some r1:=h
   rw[L77_7]at h
   cases h
  replace h:L77_7 (m7+1) z5 s6 l7 s9 l10 l11 l12 l13 l14 z16 b142=some r1:=h
  rw[L77_7]at h
  try cbv
  cases b142
  rotate_left
  ·replace h:=itT h
   try cbv
   refine seq_go ?_
   try cbv
   obtain rfl:=Option.some.inj h
   refine fin_go ?_
   try cbv
   exact⟨[],by trivial⟩
  replace h:=itF h
  try cbv
  refine seq_go ?_
  try cbv
  refine seq_join (T:=Nat×Bool) (fun t=>⟨[sL 2 0,sL 3 32,sB 4 false,sL 5 256,sB 93 t.2],[(.loc 0,.cells [.d (.int .u8 z1),.d (.str s2),.d (.str s3),.d (.list false 1 l4),.d (.int .u8 z5),.d (.str s6),.d (.list true 3 l7),.d (.int .i64 z8),.d (.str s9),.d (.list false 1 l10),.d (.list true 8 l11),.d (.list true 15 l12),.d (.list true 15 l13),.d (.list true 3 l14),.d (.int .i64 z15)]),(.loc 32,.cells [.d (.int .i64 z16)]),(.loc 256,.cells [.d (.int .i64 6),.d (.int .i64 1),.d (.bool false),.d (.bool false),.d (.bool false),.d (.bool false),.d (.bool false),.d (.bool false),.fn 73 [],.fn 145 []])],2944⟩) (fun t=>t.1<=m7/\L77_8 t.1 l11 l12 l13 l14 z16 t.2=some r1) ?_ ?_
  ·try cbv
   replace h:=letF_inv h
   obtain⟨z143,hz,h⟩:=h
   refine⟨z143,hz,?_⟩
   clear hz
   try cbv
   replace h:=bO1_inv h
   obtain⟨b144,hr,h⟩:=h
   first | refine .inr (.inl ⟨[],?_⟩) | refine .inl ⟨[],?_⟩
   try cbv
   refine call_pure hM hI (T55 _ hr) rfl ?_
   clear hr
   try cbv
   replace h:=letB_inv h
   obtain⟨b145,hz,h⟩:=h
   refine⟨b145,eqv_ne hz,?_⟩
   clear hz
   try cbv
   cases b145
   rotate_left
   ·replace h:=itT h
    try cbv
    refine drawn ?_ ?_
    ·show _=true
     kernel_rfl
    try cbv
    exact join_next (m7,true) [2,3,4,5,93] [.loc 0,.loc 32,.loc 256] 2944 ⟨by omega,h⟩ (by cbv)
   replace h:=itF h
   try cbv
   refine⟨true,rfl,?_⟩
   try cbv
   replace h:=bO1_inv h
   obtain⟨b146,hr,h⟩:=h
   first | refine .inr (.inl ⟨[],?_⟩) | refine .inl ⟨[],?_⟩
   try cbv
   refine call_pure hM hI (T72 _ hr) rfl ?_
   clear hr
   try cbv
   replace h:=letB_inv h
   obtain⟨b147,hz,h⟩:=h
   refine⟨b147,not_eq' hz,?_⟩
   clear hz
   try cbv
   cases b147
   rotate_left
   ·replace h:=itT h
    try cbv
    refine drawn ?_ ?_
    ·show _=true
     kernel_rfl
    try cbv
    exact join_next (m7,true) [2,3,4,5,93] [.loc 0,.loc 32,.loc 256] 2944 ⟨by omega,h⟩ (by cbv)
   replace h:=itF h
   try cbv
   replace h:=bO1_inv h
   obtain⟨b148,hr,h⟩:=h
   first | refine .inr (.inl ⟨[],?_⟩) | refine .inl ⟨[],?_⟩
   try cbv
   refine call_pure hM hI (T52 _ hr) rfl ?_
   clear hr
   try cbv
   replace h:=letB_inv h
   obtain⟨b149,hz,h⟩:=h
   refine⟨b149,eqv_ne hz,?_⟩
   clear hz
   try cbv
   cases b149
   rotate_left
   ·replace h:=itT h
    try cbv
    refine drawn ?_ ?_
    ·show _=true
     kernel_rfl
    try cbv
    exact join_next (m7,true) [2,3,4,5,93] [.loc 0,.loc 32,.loc 256] 2944 ⟨by omega,h⟩ (by cbv)
   replace h:=itF h
   try cbv
   refine⟨true,rfl,?_⟩
   try cbv
   replace h:=bO1_inv h
   obtain⟨b150,hr,h⟩:=h
   first | refine .inr (.inl ⟨[],?_⟩) | refine .inl ⟨[],?_⟩
   try cbv
   refine call_pure hM hI (T126 _ hr) rfl ?_
   clear hr
   try cbv
   replace h:=letB_inv h
   obtain⟨b151,hz,h⟩:=h
   refine⟨b151,not_eq' hz,?_⟩
   clear hz
   try cbv
   refine drawn ?_ ?_
   ·show _=true
    kernel_rfl
   try cbv
   exact join_next (m7,b151) [2,3,4,5,93] [.loc 0,.loc 32,.loc 256] 2944 ⟨by omega,h⟩ (by cbv)
  clear h
  rintro⟨m8,b152⟩ ⟨hm8,h⟩
  replace hm8:m8<=m7:=hm8
  obtain _ | m8:=m8
  ·replace h:L77_8 0 l11 l12 l13 l14 z16 b152=some r1:=h
   rw[L77_8]at h
   cases h
  replace h:L77_8 (m8+1) l11 l12 l13 l14 z16 b152=some r1:=h
  rw[L77_8]at h
  try cbv
  cases b152
  rotate_left
  ·replace h:=itT h
   try cbv
   refine seq_go ?_
   try cbv
   obtain rfl:=Option.some.inj h
   refine fin_go ?_
   try cbv
   exact⟨[],by trivial⟩
  replace h:=itF h
  try cbv
  refine seq_go ?_
  try cbv
  refine seq_join (T:=Nat×Bool) (fun t=>⟨[sL 2 0,sL 3 32,sB 4 false,sL 5 256,sB 124 t.2],[(.loc 0,.cells [.d (.int .u8 z1),.d (.str s2),.d (.str s3),.d (.list false 1 l4),.d (.int .u8 z5),.d (.str s6),.d (.list true 3 l7),.d (.int .i64 z8),.d (.str s9),.d (.list false 1 l10),.d (.list true 8 l11),.d (.list true 15 l12),.d (.list true 15 l13),.d (.list true 3 l14),.d (.int .i64 z15)]),(.loc 32,.cells [.d (.int .i64 z16)]),(.loc 256,.cells [.d (.int .i64 6),.d (.int .i64 1),.d (.bool false),.d (.bool false),.d (.bool false),.d (.bool false),.d (.bool false),.d (.bool false),.fn 73 [],.fn 145 []])],3936⟩) (fun t=>t.1<=m8/\L77_9 t.1 l11 l12 l13 l14 z16 t.2=some r1) ?_ ?_
  ·try cbv
   refine⟨true,rfl,?_⟩
   try cbv
   replace h:=lenF_inv M h
   obtain⟨z153,hz,h⟩:=h
   refine⟨z153,hz,?_⟩
   clear hz
   try cbv
   refine splitL (fun e=>?_) (fun e=>?_)
   ·replace h:=ite_t e h
    clear e
    try cbv
    exact join_next (m8,true) [2,3,4,5,124] [.loc 0,.loc 32,.loc 256] 3936 ⟨by omega,h⟩ (by cbv)
   replace h:=ite_f (Int.not_lt.2 e) h
   clear e
   try cbv
   refine⟨true,rfl,?_⟩
   try cbv
   replace h:=lenF_inv M h
   obtain⟨z154,hz,h⟩:=h
   refine⟨z154,hz,?_⟩
   clear hz
   try cbv
   refine splitL (fun e=>?_) (fun e=>?_)
   ·replace h:=ite_t e h
    clear e
    try cbv
    exact join_next (m8,true) [2,3,4,5,124] [.loc 0,.loc 32,.loc 256] 3936 ⟨by omega,h⟩ (by cbv)
   replace h:=ite_f (Int.not_lt.2 e) h
   clear e
   try cbv
   refine⟨true,rfl,?_⟩
   try cbv
   replace h:=lenF_inv M h
   obtain⟨z155,hz,h⟩:=h
   refine⟨z155,hz,?_⟩
   clear hz
   try cbv
   refine splitL (fun e=>?_) (fun e=>?_)
   ·replace h:=ite_t e h
    clear e
    try cbv
    exact join_next (m8,true) [2,3,4,5,124] [.loc 0,.loc 32,.loc 256] 3936 ⟨by omega,h⟩ (by cbv)
   replace h:=ite_f (Int.not_lt.2 e) h
   clear e
   try cbv
   exact join_next (m8,false) [2,3,4,5,124] [.loc 0,.loc 32,.loc 256] 3936 ⟨by omega,h⟩ (by cbv)
  clear h
  rintro⟨m9,b156⟩ ⟨hm9,h⟩
  replace hm9:m9<=m8:=hm9
  obtain _ | m9:=m9
  ·replace h:L77_9 0 l11 l12 l13 l14 z16 b156=some r1:=h
   rw[L77_9]at h
   cases h
  replace h:L77_9 (m9+1) l11 l12 l13 l14 z16 b156=some r1:=h
  rw[L77_9]at h
  try cbv
  cases b156
  rotate_left
  ·replace h:=itT h
   try cbv
   refine seq_go ?_
   try cbv
   obtain rfl:=Option.some.inj h
   refine fin_go ?_
   try cbv
   exact⟨[],by trivial⟩
  replace h:=itF h
  try cbv
  refine seq_go ?_
  try cbv
  refine seq_go ?_
  try cbv
  replace h:=bO10_inv h
  obtain⟨b157,z158,z159,b160,b161,b162,b163,b164,b165,z166,hr,h⟩:=h
  refine call_go rfl rfl ?_
  try cbv
  refine call_with hM hI [.loc 256,.loc 32] (T98x3 _ hr) rfl (by simp) ⟨rfl,⟨rfl,trivial⟩⟩ ⟨trivial,⟨trivial,trivial⟩⟩ (by simp) ?_
  clear hr
  try cbv
  cases b157
  ·replace h:=itF h
   try cbv
   obtain rfl:=Option.some.inj h
   refine fin_go ?_
   try cbv
   exact⟨[],by trivial⟩
  replace h:=itT h
  try cbv
  replace h:=lenF_inv M h
  obtain⟨z167,hz,h⟩:=h
  refine⟨z167,hz,?_⟩
  clear hz
  try cbv
  replace h:=bO2_inv h
  obtain⟨b168,z169,hr,h⟩:=h
  refine call_go rfl rfl ?_
  try cbv
  refine call_with hM hI [.loc 32] ((ih _ (by omega)).2.1 hr) rfl (by simp) ⟨rfl,trivial⟩ ⟨trivial,trivial⟩ (by simp) ?_
  clear hr
  try cbv
  cases b168
  ·replace h:=itF h
   try cbv
   obtain rfl:=Option.some.inj h
   refine fin_go ?_
   try cbv
   exact⟨[],by trivial⟩
  replace h:=itT h
  try cbv
  replace h:=lenF_inv M h
  obtain⟨z170,hz,h⟩:=h
  refine⟨z170,hz,?_⟩
  clear hz
  try cbv
  replace h:=bO2_inv h
  obtain⟨b171,z172,hr,h⟩:=h
  refine call_go rfl rfl ?_
  try cbv
  refine call_with hM hI [.loc 32] ((ih _ (by omega)).2.1 hr) rfl (by simp) ⟨rfl,trivial⟩ ⟨trivial,trivial⟩ (by simp) ?_
  clear hr
  try cbv
  cases b171
  ·replace h:=itF h
   try cbv
   obtain rfl:=Option.some.inj h
   refine fin_go ?_
   try cbv
   exact⟨[],by trivial⟩
  replace h:=itT h
  try cbv
  replace h:=bO2_inv h
  obtain⟨b173,z174,hr,h⟩:=h
  refine call_go rfl rfl ?_
  try cbv
  refine call_with hM hI [.loc 3968,.loc 32] ((ih _ (by omega)).2.2.2.1 hr) rfl (by simp) ⟨rfl,⟨rfl,trivial⟩⟩ ⟨trivial,⟨trivial,trivial⟩⟩ (by simp) ?_
  clear hr
  try cbv
  obtain rfl:=Option.some.inj h
  refine fin_go ?_
  try cbv
  exact⟨[],by trivial⟩
 obtain rfl:=Option.some.inj hr2
 skip
 replace h:=bS_inv h
 rcases h with⟨_,hr2,h⟩ | ⟨_,hr2,h⟩
 ·obtain rfl:=Option.some.inj hr2
  refine call_go rfl rfl ?_
  try cbv
  refine call_pure hM hI (T124 _ hr (fun r p n=>r= .t [.agg [.d (.int .i64 0),.d (.int .i64 0),.d (.bool false),.d (.bool false),.d (.bool false),.d (.bool false),.d (.bool true),.d (.bool false),.fn 74 [],.fn 73 []],.d (.bool true)]/\p=[]/\n=[]) ⟨rfl,rfl,rfl⟩:Trip _ _ _ _ _ (.t [.agg [.d (.int .i64 0),.d (.int .i64 0),.d (.bool false),.d (.bool false),.d (.bool false),.d (.bool false),.d (.bool true),.d (.bool false),.fn 74 [],.fn 73 []],.d (.bool true)]) [] []) rfl ?_
  clear hr
  try cbv
  refine seq_go ?_
  try cbv
  refine seq_join (T:=Nat×Bool) (fun t=>⟨[sL 2 0,sL 3 32,sB 4 false,sL 5 256,sB 55 t.2],[(.loc 0,.cells [.d (.int .u8 z1),.d (.str s2),.d (.str s3),.d (.list false 1 l4),.d (.int .u8 z5),.d (.str s6),.d (.list true 3 l7),.d (.int .i64 z8),.d (.str s9),.d (.list false 1 l10),.d (.list true 8 l11),.d (.list true 15 l12),.d (.list true 15 l13),.d (.list true 3 l14),.d (.int .i64 z15)]),(.loc 32,.cells [.d (.int .i64 z16)]),(.loc 256,.cells [.d (.int .i64 0),.d (.int .i64 0),.d (.bool false),.d (.bool false),.d (.bool false),.d (.bool false),.d (.bool true),.d (.bool false),.fn 74 [],.fn 73 []])],1728⟩) (fun t=>t.1<=n/\L77_10 t.1 z5 s6 l7 s9 l10 l11 l12 l13 l14 z16 t.2=some r1) ?_ ?_
  ·try cbv
   refine splitL (fun e=>?_) (fun e=>?_)
   ·replace h:=ite_t e h
    clear e
    try cbv
    exact join_next (n,true) [2,3,4,5,55] [.loc 0,.loc 32,.loc 256] 1728 ⟨by omega,h⟩ (by cbv)
   replace h:=ite_f (Int.not_lt.2 e) h
   clear e
   try cbv
   refine⟨false,rfl,?_⟩
   try cbv
   replace h:=bO1_inv h
   obtain⟨b175,hr,h⟩:=h
   refine call_go rfl rfl ?_
   try cbv
   refine call_pure hM hI (T125 _ hr) rfl ?_
   clear hr
   try cbv
   replace h:=letB_inv h
   obtain⟨b176,hz,h⟩:=h
   refine⟨b176,not_eq' hz,?_⟩
   clear hz
   try cbv
   cases b176
   rotate_left
   ·replace h:=itT h
    try cbv
    exact join_next (n,true) [2,3,4,5,55] [.loc 0,.loc 32,.loc 256] 1728 ⟨by omega,h⟩ (by cbv)
   replace h:=itF h
   try cbv
   replace h:=bO1_inv h
   obtain⟨b177,hr,h⟩:=h
   refine call_go rfl rfl ?_
   try cbv
   refine call_pure hM hI (T74 _ hr) rfl ?_
   clear hr
   try cbv
   replace h:=letB_inv h
   obtain⟨b178,hz,h⟩:=h
   refine⟨b178,not_eq' hz,?_⟩
   clear hz
   try cbv
   cases b178
   rotate_left
   ·replace h:=itT h
    try cbv
    exact join_next (n,true) [2,3,4,5,55] [.loc 0,.loc 32,.loc 256] 1728 ⟨by omega,h⟩ (by cbv)
   replace h:=itF h
   try cbv
   replace h:=bO1_inv h
   obtain⟨b179,hr,h⟩:=h
   refine call_go rfl rfl ?_
   try cbv
   refine call_pure hM hI (T73 _ hr) rfl ?_
   clear hr
   try cbv
   replace h:=letB_inv h
   obtain⟨b180,hz,h⟩:=h
   refine⟨b180,not_eq' hz,?_⟩
   clear hz
   try cbv
   cases b180
   rotate_left
   ·replace h:=itT h
    try cbv
    exact join_next (n,true) [2,3,4,5,55] [.loc 0,.loc 32,.loc 256] 1728 ⟨by omega,h⟩ (by cbv)
   replace h:=itF h
   try cbv
   replace h:=lenF_inv M h
   obtain⟨z181,hz,h⟩:=h
   refine⟨z181,hz,?_⟩
   clear hz
   try cbv
   refine splitI (fun e=>?_) (fun e=>?_)
   ·replace h:=ite_t e h
    clear e
    try cbv
    replace h:=bO1_inv h
    obtain⟨b182,hr,h⟩:=h
    refine call_go rfl rfl ?_
    try cbv
    refine call_pure hM hI (T93x1 _ hr) rfl ?_
    clear hr
    try cbv
    replace h:=letB_inv h
    obtain⟨b183,hz,h⟩:=h
    refine⟨b183,not_eq' hz,?_⟩
    clear hz
    try cbv
    exact join_next (n,b183) [2,3,4,5,55] [.loc 0,.loc 32,.loc 256] 1728 ⟨by omega,h⟩ (by cbv)
   replace h:=ite_f e h
   clear e
   try cbv
   exact join_next (n,true) [2,3,4,5,55] [.loc 0,.loc 32,.loc 256] 1728 ⟨by omega,h⟩ (by cbv)
  clear h
  rintro⟨m10,b184⟩ ⟨hm10,h⟩
  replace hm10:m10<=n:=hm10
  obtain _ | m10:=m10
  ·replace h:L77_10 0 z5 s6 l7 s9 l10 l11 l12 l13 l14 z16 b184=some r1:=h
   rw[L77_10]at h
   cases h
  replace h:L77_10 (m10+1) z5 s6 l7 s9 l10 l11 l12 l13 l14 z16 b184=some r1:=h
  rw[L77_10]at h
  try cbv
  cases b184
  rotate_left
  ·replace h:=itT h
   try cbv
   refine seq_go ?_
   try cbv
   obtain rfl:=Option.some.inj h
   refine fin_go ?_
   try cbv
   exact⟨[],by trivial⟩
  replace h:=itF h
  try cbv
  refine seq_go ?_
  try cbv
  refine seq_join (T:=Nat×Bool) (fun t=>⟨[sL 2 0,sL 3 32,sB 4 false,sL 5 256,sB 93 t.2],[(.loc 0,.cells [.d (.int .u8 z1),.d (.str s2),.d (.str s3),.d (.list false 1 l4),.d (.int .u8 z5),.d (.str s6),.d (.list true 3 l7),.d (.int .i64 z8),.d (.str s9),.d (.list false 1 l10),.d (.list true 8 l11),.d (.list true 15 l12),.d (.list true 15 l13),.d (.list true 3 l14),.d (.int .i64 z15)]),(.loc 32,.cells [.d (.int .i64 z16)]),(.loc 256,.cells [.d (.int .i64 0),.d (.int .i64 0),.d (.bool false),.d (.bool false),.d (.bool false),.d (.bool false),.d (.bool true),.d (.bool false),.fn 74 [],.fn 73 []])],2944⟩) (fun t=>t.1<=m10/\L77_11 t.1 l11 l12 l13 l14 z16 t.2=some r1) ?_ ?_
  ·try cbv
   replace h:=letF_inv h
   obtain⟨z185,hz,h⟩:=h
   refine⟨z185,hz,?_⟩
   clear hz
   try cbv
   replace h:=bO1_inv h
   obtain⟨b186,hr,h⟩:=h
   first | refine .inr (.inl ⟨[],?_⟩) | refine .inl ⟨[],?_⟩
   try cbv
   refine call_pure hM hI (T55 _ hr) rfl ?_
   clear hr
   try cbv
   replace h:=letB_inv h
   obtain⟨b187,hz,h⟩:=h
   refine⟨b187,eqv_ne hz,?_⟩
   clear hz
   try cbv
   cases b187
   rotate_left
   ·replace h:=itT h
    try cbv
    refine drawn ?_ ?_
    ·show _=true
     kernel_rfl
    try cbv
    exact join_next (m10,true) [2,3,4,5,93] [.loc 0,.loc 32,.loc 256] 2944 ⟨by omega,h⟩ (by cbv)
   replace h:=itF h
   try cbv
   refine⟨true,rfl,?_⟩
   try cbv
   replace h:=bO1_inv h
   obtain⟨b188,hr,h⟩:=h
   first | refine .inr (.inl ⟨[],?_⟩) | refine .inl ⟨[],?_⟩
   try cbv
   refine call_pure hM hI (T72 _ hr) rfl ?_
   clear hr
   try cbv
   replace h:=letB_inv h
   obtain⟨b189,hz,h⟩:=h
   refine⟨b189,not_eq' hz,?_⟩
   clear hz
   try cbv
   cases b189
   rotate_left
   ·replace h:=itT h
    try cbv
    refine drawn ?_ ?_
    ·show _=true
     kernel_rfl
    try cbv
    exact join_next (m10,true) [2,3,4,5,93] [.loc 0,.loc 32,.loc 256] 2944 ⟨by omega,h⟩ (by cbv)
   replace h:=itF h
   try cbv
   replace h:=bO1_inv h
   obtain⟨b190,hr,h⟩:=h
   first | refine .inr (.inl ⟨[],?_⟩) | refine .inl ⟨[],?_⟩
   try cbv
   refine call_pure hM hI (T52 _ hr) rfl ?_
   clear hr
   try cbv
   replace h:=letB_inv h
   obtain⟨b191,hz,h⟩:=h
   refine⟨b191,eqv_ne hz,?_⟩
   clear hz
   try cbv
   cases b191
   rotate_left
   ·replace h:=itT h
    try cbv
    refine drawn ?_ ?_
    ·show _=true
     kernel_rfl
    try cbv
    exact join_next (m10,true) [2,3,4,5,93] [.loc 0,.loc 32,.loc 256] 2944 ⟨by omega,h⟩ (by cbv)
   replace h:=itF h
   try cbv
   refine⟨true,rfl,?_⟩
   try cbv
   replace h:=bO1_inv h
   obtain⟨b192,hr,h⟩:=h
   first | refine .inr (.inl ⟨[],?_⟩) | refine .inl ⟨[],?_⟩
   try cbv
   refine call_pure hM hI (T126 _ hr) rfl ?_
   clear hr
   try cbv
   replace h:=letB_inv h
   obtain⟨b193,hz,h⟩:=h
   refine⟨b193,not_eq' hz,?_⟩
   clear hz
   try cbv
   refine drawn ?_ ?_
   ·show _=true
    kernel_rfl
   try cbv
   exact join_next (m10,b193) [2,3,4,5,93] [.loc 0,.loc 32,.loc 256] 2944 ⟨by omega,h⟩ (by cbv)
  clear h
  rintro⟨m11,b194⟩ ⟨hm11,h⟩
  replace hm11:m11<=m10:=hm11
  obtain _ | m11:=m11
  ·replace h:L77_11 0 l11 l12 l13 l14 z16 b194=some r1:=h
   rw[L77_11]at h
   cases h
  replace h:L77_11 (m11+1) l11 l12 l13 l14 z16 b194=some r1:=h
  rw[L77_11]at h
  try cbv
  cases b194
  rotate_left
  ·replace h:=itT h
   try cbv
   refine seq_go ?_
   try cbv
   obtain rfl:=Option.some.inj h
   refine fin_go ?_
   try cbv
   exact⟨[],by trivial⟩
  replace h:=itF h
  try cbv
  refine seq_go ?_
  try cbv
  refine seq_join (T:=Nat×Bool) (fun t=>⟨[sL 2 0,sL 3 32,sB 4 false,sL 5 256,sB 124 t.2],[(.loc 0,.cells [.d (.int .u8 z1),.d (.str s2),.d (.str s3),.d (.list false 1 l4),.d (.int .u8 z5),.d (.str s6),.d (.list true 3 l7),.d (.int .i64 z8),.d (.str s9),.d (.list false 1 l10),.d (.list true 8 l11),.d (.list true 15 l12),.d (.list true 15 l13),.d (.list true 3 l14),.d (.int .i64 z15)]),(.loc 32,.cells [.d (.int .i64 z16)]),(.loc 256,.cells [.d (.int .i64 0),.d (.int .i64 0),.d (.bool false),.d (.bool false),.d (.bool false),.d (.bool false),.d (.bool true),.d (.bool false),.fn 74 [],.fn 73 []])],3936⟩) (fun t=>t.1<=m11/\L77_12 t.1 l11 l12 l13 l14 z16 t.2=some r1) ?_ ?_
  ·try cbv
   refine⟨true,rfl,?_⟩
   try cbv
   replace h:=lenF_inv M h
   obtain⟨z195,hz,h⟩:=h
   refine⟨z195,hz,?_⟩
   clear hz
   try cbv
   refine splitL (fun e=>?_) (fun e=>?_)
   ·replace h:=ite_t e h
    clear e
    try cbv
    exact join_next (m11,true) [2,3,4,5,124] [.loc 0,.loc 32,.loc 256] 3936 ⟨by omega,h⟩ (by cbv)
   replace h:=ite_f (Int.not_lt.2 e) h
   clear e
   try cbv
   refine⟨true,rfl,?_⟩
   try cbv
   replace h:=lenF_inv M h
   obtain⟨z196,hz,h⟩:=h
   refine⟨z196,hz,?_⟩
   clear hz
   try cbv
   refine splitL (fun e=>?_) (fun e=>?_)
   ·replace h:=ite_t e h
    clear e
    try cbv
    exact join_next (m11,true) [2,3,4,5,124] [.loc 0,.loc 32,.loc 256] 3936 ⟨by omega,h⟩ (by cbv)
   replace h:=ite_f (Int.not_lt.2 e) h
   clear e
   try cbv
   refine⟨false,rfl,?_⟩
   try cbv
   exact join_next (m11,false) [2,3,4,5,124] [.loc 0,.loc 32,.loc 256] 3936 ⟨by omega,h⟩ (by cbv)
  clear h
  rintro⟨m12,b197⟩ ⟨hm12,h⟩
  replace hm12:m12<=m11:=hm12
  obtain _ | m12:=m12
  ·replace h:L77_12 0 l11 l12 l13 l14 z16 b197=some r1:=h
   rw[L77_12]at h
   cases h
  replace h:L77_12 (m12+1) l11 l12 l13 l14 z16 b197=some r1:=h
  rw[L77_12]at h
  try cbv
  cases b197
  rotate_left
  ·replace h:=itT h
   try cbv
   refine seq_go ?_
   try cbv
   obtain rfl:=Option.some.inj h
   refine fin_go ?_
   try cbv
   exact⟨[],by trivial⟩
  replace h:=itF h
  try cbv
  refine seq_go ?_
  try cbv
  refine seq_go ?_
  try cbv
  replace h:=bO10_inv h
  obtain⟨b198,z199,z200,b201,b202,b203,b204,b205,b206,z207,hr,h⟩:=h
  refine call_go rfl rfl ?_
  try cbv
  refine call_with hM hI [.loc 256,.loc 32] (T98x4 _ hr) rfl (by simp) ⟨rfl,⟨rfl,trivial⟩⟩ ⟨trivial,⟨trivial,trivial⟩⟩ (by simp) ?_
  clear hr
  try cbv
  cases b198
  ·replace h:=itF h
   try cbv
   obtain rfl:=Option.some.inj h
   refine fin_go ?_
   try cbv
   exact⟨[],by trivial⟩
  replace h:=itT h
  try cbv
  replace h:=lenF_inv M h
  obtain⟨z208,hz,h⟩:=h
  refine⟨z208,hz,?_⟩
  clear hz
  try cbv
  replace h:=bO2_inv h
  obtain⟨b209,z210,hr,h⟩:=h
  refine call_go rfl rfl ?_
  try cbv
  refine call_with hM hI [.loc 32] ((ih _ (by omega)).2.1 hr) rfl (by simp) ⟨rfl,trivial⟩ ⟨trivial,trivial⟩ (by simp) ?_
  clear hr
  try cbv
  cases b209
  ·replace h:=itF h
   try cbv
   obtain rfl:=Option.some.inj h
   refine fin_go ?_
   try cbv
   exact⟨[],by trivial⟩
  replace h:=itT h
  try cbv
  replace h:=lenF_inv M h
  obtain⟨z211,hz,h⟩:=h
  refine⟨z211,hz,?_⟩
  clear hz
  try cbv
  replace h:=bO2_inv h
  obtain⟨b212,z213,hr,h⟩:=h
  refine call_go rfl rfl ?_
  try cbv
  refine call_with hM hI [.loc 32] ((ih _ (by omega)).2.1 hr) rfl (by simp) ⟨rfl,trivial⟩ ⟨trivial,trivial⟩ (by simp) ?_
  clear hr
  try cbv
  cases b212
  ·replace h:=itF h
   try cbv
   obtain rfl:=Option.some.inj h
   refine fin_go ?_
   try cbv
   exact⟨[],by trivial⟩
  replace h:=itT h
  try cbv
  replace h:=bO2_inv h
  obtain⟨b214,z215,hr,h⟩:=h
  refine call_go rfl rfl ?_
  try cbv
  refine call_with hM hI [.loc 3968,.loc 32] ((ih _ (by omega)).2.2.2.1 hr) rfl (by simp) ⟨rfl,⟨rfl,trivial⟩⟩ ⟨trivial,⟨trivial,trivial⟩⟩ (by simp) ?_
  clear hr
  try cbv
  obtain rfl:=Option.some.inj h
  refine fin_go ?_
  try cbv
  exact⟨[],by trivial⟩
 obtain rfl:=Option.some.inj hr2
 refine call_go rfl rfl ?_
 try cbv
 refine call_pure hM hI (T124 _ hr (fun r p n=>r= .t [.agg [.d (.int .i64 0),.d (.int .i64 0),.d (.bool true),.d (.bool false),.d (.bool false),.d (.bool false),.d (.bool false),.d (.bool false),.fn 74 [],.fn 74 []],.d (.bool true)]/\p=[]/\n=[]) ⟨rfl,rfl,rfl⟩:Trip _ _ _ _ _ (.t [.agg [.d (.int .i64 0),.d (.int .i64 0),.d (.bool true),.d (.bool false),.d (.bool false),.d (.bool false),.d (.bool false),.d (.bool false),.fn 74 [],.fn 74 []],.d (.bool true)]) [] []) rfl ?_
 clear hr
 try cbv
 refine seq_go ?_
 try cbv
 refine seq_join (T:=Nat×Bool) (fun t=>⟨[sL 2 0,sL 3 32,sB 4 false,sL 5 256,sB 55 t.2],[(.loc 0,.cells [.d (.int .u8 z1),.d (.str s2),.d (.str s3),.d (.list false 1 l4),.d (.int .u8 z5),.d (.str s6),.d (.list true 3 l7),.d (.int .i64 z8),.d (.str s9),.d (.list false 1 l10),.d (.list true 8 l11),.d (.list true 15 l12),.d (.list true 15 l13),.d (.list true 3 l14),.d (.int .i64 z15)]),(.loc 32,.cells [.d (.int .i64 z16)]),(.loc 256,.cells [.d (.int .i64 0),.d (.int .i64 0),.d (.bool true),.d (.bool false),.d (.bool false),.d (.bool false),.d (.bool false),.d (.bool false),.fn 74 [],.fn 74 []])],1728⟩) (fun t=>t.1<=n/\L77_13 t.1 z5 s6 l7 s9 l10 l11 l12 l13 l14 z16 t.2=some r1) ?_ ?_
 ·try cbv
  refine splitL (fun e=>?_) (fun e=>?_)
  ·replace h:=ite_t e h
   clear e
   try cbv
   exact join_next (n,true) [2,3,4,5,55] [.loc 0,.loc 32,.loc 256] 1728 ⟨by omega,h⟩ (by cbv)
  replace h:=ite_f (Int.not_lt.2 e) h
  clear e
  try cbv
  refine⟨false,rfl,?_⟩
  try cbv
  replace h:=bO1_inv h
  obtain⟨b216,hr,h⟩:=h
  refine call_go rfl rfl ?_
  try cbv
  refine call_pure hM hI (T125 _ hr) rfl ?_
  clear hr
  try cbv
  replace h:=letB_inv h
  obtain⟨b217,hz,h⟩:=h
  refine⟨b217,not_eq' hz,?_⟩
  clear hz
  try cbv
  cases b217
  rotate_left
  ·replace h:=itT h
   try cbv
   exact join_next (n,true) [2,3,4,5,55] [.loc 0,.loc 32,.loc 256] 1728 ⟨by omega,h⟩ (by cbv)
  replace h:=itF h
  try cbv
  replace h:=bO1_inv h
  obtain⟨b218,hr,h⟩:=h
  refine call_go rfl rfl ?_
  try cbv
  refine call_pure hM hI (T74 _ hr) rfl ?_
  clear hr
  try cbv
  replace h:=letB_inv h
  obtain⟨b219,hz,h⟩:=h
  refine⟨b219,not_eq' hz,?_⟩
  clear hz
  try cbv
  cases b219
  rotate_left
  ·replace h:=itT h
   try cbv
   exact join_next (n,true) [2,3,4,5,55] [.loc 0,.loc 32,.loc 256] 1728 ⟨by omega,h⟩ (by cbv)
  replace h:=itF h
  try cbv
  replace h:=bO1_inv h
  obtain⟨b220,hr,h⟩:=h
  refine call_go rfl rfl ?_
  try cbv
  refine call_pure hM hI (T74 _ hr) rfl ?_
  clear hr
  try cbv
  replace h:=letB_inv h
  obtain⟨b221,hz,h⟩:=h
  refine⟨b221,not_eq' hz,?_⟩
  clear hz
  try cbv
  cases b221
  rotate_left
  ·replace h:=itT h
   try cbv
   exact join_next (n,true) [2,3,4,5,55] [.loc 0,.loc 32,.loc 256] 1728 ⟨by omega,h⟩ (by cbv)
  replace h:=itF h
  try cbv
  replace h:=lenF_inv M h
  obtain⟨z222,hz,h⟩:=h
  refine⟨z222,hz,?_⟩
  clear hz
  try cbv
  refine splitI (fun e=>?_) (fun e=>?_)
  ·replace h:=ite_t e h
   clear e
   try cbv
   replace h:=bO1_inv h
   obtain⟨b223,hr,h⟩:=h
   refine call_go rfl rfl ?_
   try cbv
   refine call_pure hM hI (T93x1 _ hr) rfl ?_
   clear hr
   try cbv
   replace h:=letB_inv h
   obtain⟨b224,hz,h⟩:=h
   refine⟨b224,not_eq' hz,?_⟩
   clear hz
   try cbv
   exact join_next (n,b224) [2,3,4,5,55] [.loc 0,.loc 32,.loc 256] 1728 ⟨by omega,h⟩ (by cbv)
  replace h:=ite_f e h
  clear e
  try cbv
  exact join_next (n,true) [2,3,4,5,55] [.loc 0,.loc 32,.loc 256] 1728 ⟨by omega,h⟩ (by cbv)
 clear h
 rintro⟨m13,b225⟩ ⟨hm13,h⟩
 replace hm13:m13<=n:=hm13
 obtain _ | m13:=m13
 ·replace h:L77_13 0 z5 s6 l7 s9 l10 l11 l12 l13 l14 z16 b225=some r1:=h
  rw[L77_13]at h
  cases h
 replace h:L77_13 (m13+1) z5 s6 l7 s9 l10 l11 l12 l13 l14 z16 b225=some r1:=h
 rw[L77_13]at h
 try cbv
 cases b225
 rotate_left
 ·replace h:=itT h
  try cbv
  refine seq_go ?_
  try cbv
  obtain rfl:=Option.some.inj h
  refine fin_go ?_
  try cbv
  exact⟨[],by trivial⟩
 replace h:=itF h
 try cbv
 refine seq_go ?_
 try cbv
 refine seq_join (T:=Nat×Bool) (fun t=>⟨[sL 2 0,sL 3 32,sB 4 false,sL 5 256,sB 93 t.2],[(.loc 0,.cells [.d (.int .u8 z1),.d (.str s2),.d (.str s3),.d (.list false 1 l4),.d (.int .u8 z5),.d (.str s6),.d (.list true 3 l7),.d (.int .i64 z8),.d (.str s9),.d (.list false 1 l10),.d (.list true 8 l11),.d (.list true 15 l12),.d (.list true 15 l13),.d (.list true 3 l14),.d (.int .i64 z15)]),(.loc 32,.cells [.d (.int .i64 z16)]),(.loc 256,.cells [.d (.int .i64 0),.d (.int .i64 0),.d (.bool true),.d (.bool false),.d (.bool false),.d (.bool false),.d (.bool false),.d (.bool false),.fn 74 [],.fn 74 []])],2944⟩) (fun t=>t.1<=m13/\L77_14 t.1 l11 l12 l13 l14 z16 t.2=some r1) ?_ ?_
 ·try cbv
  replace h:=letF_inv h
  obtain⟨z226,hz,h⟩:=h
  refine⟨z226,hz,?_⟩
  clear hz
  try cbv
  replace h:=bO1_inv h
  obtain⟨b227,hr,h⟩:=h
  first | refine .inr (.inl ⟨[],?_⟩) | refine .inl ⟨[],?_⟩
  try cbv
  refine call_pure hM hI (T55 _ hr) rfl ?_
  clear hr
  try cbv
  replace h:=letB_inv h
  obtain⟨b228,hz,h⟩:=h
  refine⟨b228,eqv_ne hz,?_⟩
  clear hz
  try cbv
  cases b228
  rotate_left
  ·replace h:=itT h
   try cbv
   refine drawn ?_ ?_
   ·show _=true
    kernel_rfl
   try cbv
   exact join_next (m13,true) [2,3,4,5,93] [.loc 0,.loc 32,.loc 256] 2944 ⟨by omega,h⟩ (by cbv)
  replace h:=itF h
  try cbv
  refine⟨false,rfl,?_⟩
  try cbv
  replace h:=bO1_inv h
  obtain⟨b229,hr,h⟩:=h
  first | refine .inr (.inl ⟨[],?_⟩) | refine .inl ⟨[],?_⟩
  try cbv
  refine call_pure hM hI (T52 _ hr) rfl ?_
  clear hr
  try cbv
  replace h:=letB_inv h
  obtain⟨b230,hz,h⟩:=h
  refine⟨b230,eqv_ne hz,?_⟩
  clear hz
  try cbv
  cases b230
  rotate_left
  ·replace h:=itT h
   try cbv
   refine drawn ?_ ?_
   ·show _=true
    kernel_rfl
   try cbv
   exact join_next (m13,true) [2,3,4,5,93] [.loc 0,.loc 32,.loc 256] 2944 ⟨by omega,h⟩ (by cbv)
  replace h:=itF h
  try cbv
  refine⟨true,rfl,?_⟩
  try cbv
  replace h:=bO1_inv h
  obtain⟨b231,hr,h⟩:=h
  first | refine .inr (.inl ⟨[],?_⟩) | refine .inl ⟨[],?_⟩
  try cbv
  refine call_pure hM hI (T126 _ hr) rfl ?_
  clear hr
  try cbv
  replace h:=letB_inv h
  obtain⟨b232,hz,h⟩:=h
  refine⟨b232,not_eq' hz,?_⟩
  clear hz
  try cbv
  refine drawn ?_ ?_
  ·show _=true
   kernel_rfl
  try cbv
  exact join_next (m13,b232) [2,3,4,5,93] [.loc 0,.loc 32,.loc 256] 2944 ⟨by omega,h⟩ (by cbv)
 clear h
 rintro⟨m14,b233⟩ ⟨hm14,h⟩
 replace hm14:m14<=m13:=hm14
 obtain _ | m14:=m14
 ·replace h:L77_14 0 l11 l12 l13 l14 z16 b233=some r1:=h
  rw[L77_14]at h
  cases h
 replace h:L77_14 (m14+1) l11 l12 l13 l14 z16 b233=some r1:=h
 rw[L77_14]at h
 try cbv
 cases b233
 rotate_left
 ·replace h:=itT h
  try cbv
  refine seq_go ?_
  try cbv
  obtain rfl:=Option.some.inj h
  refine fin_go ?_
  try cbv
  exact⟨[],by trivial⟩
 replace h:=itF h
 try cbv
 refine seq_go ?_
 try cbv
 refine seq_join (T:=Nat×Bool) (fun t=>⟨[sL 2 0,sL 3 32,sB 4 false,sL 5 256,sB 124 t.2],[(.loc 0,.cells [.d (.int .u8 z1),.d (.str s2),.d (.str s3),.d (.list false 1 l4),.d (.int .u8 z5),.d (.str s6),.d (.list true 3 l7),.d (.int .i64 z8),.d (.str s9),.d (.list false 1 l10),.d (.list true 8 l11),.d (.list true 15 l12),.d (.list true 15 l13),.d (.list true 3 l14),.d (.int .i64 z15)]),(.loc 32,.cells [.d (.int .i64 z16)]),(.loc 256,.cells [.d (.int .i64 0),.d (.int .i64 0),.d (.bool true),.d (.bool false),.d (.bool false),.d (.bool false),.d (.bool false),.d (.bool false),.fn 74 [],.fn 74 []])],3936⟩) (fun t=>t.1<=m14/\L77_15 t.1 l11 l12 l13 l14 z16 t.2=some r1) ?_ ?_
 ·try cbv
  refine⟨true,rfl,?_⟩
  try cbv
  replace h:=lenF_inv M h
  obtain⟨z234,hz,h⟩:=h
  refine⟨z234,hz,?_⟩
  clear hz
  try cbv
  refine splitL (fun e=>?_) (fun e=>?_)
  ·replace h:=ite_t e h
   clear e
   try cbv
   exact join_next (m14,true) [2,3,4,5,124] [.loc 0,.loc 32,.loc 256] 3936 ⟨by omega,h⟩ (by cbv)
  replace h:=ite_f (Int.not_lt.2 e) h
  clear e
  try cbv
  refine⟨true,rfl,?_⟩
  try cbv
  replace h:=lenF_inv M h
  obtain⟨z235,hz,h⟩:=h
  refine⟨z235,hz,?_⟩
  clear hz
  try cbv
  refine splitL (fun e=>?_) (fun e=>?_)
  ·replace h:=ite_t e h
   clear e
   try cbv
   exact join_next (m14,true) [2,3,4,5,124] [.loc 0,.loc 32,.loc 256] 3936 ⟨by omega,h⟩ (by cbv)
  replace h:=ite_f (Int.not_lt.2 e) h
  clear e
  try cbv
  refine⟨true,rfl,?_⟩
  try cbv
  replace h:=lenF_inv M h
  obtain⟨z236,hz,h⟩:=h
  refine⟨z236,hz,?_⟩
  clear hz
  try cbv
  refine splitL (fun e=>?_) (fun e=>?_)
  ·replace h:=ite_t e h
   clear e
   try cbv
   exact join_next (m14,true) [2,3,4,5,124] [.loc 0,.loc 32,.loc 256] 3936 ⟨by omega,h⟩ (by cbv)
  replace h:=ite_f (Int.not_lt.2 e) h
  clear e
  try cbv
  exact join_next (m14,false) [2,3,4,5,124] [.loc 0,.loc 32,.loc 256] 3936 ⟨by omega,h⟩ (by cbv)
 clear h
 rintro⟨m15,b237⟩ ⟨hm15,h⟩
 replace hm15:m15<=m14:=hm15
 obtain _ | m15:=m15
 ·replace h:L77_15 0 l11 l12 l13 l14 z16 b237=some r1:=h
  rw[L77_15]at h
  cases h
 replace h:L77_15 (m15+1) l11 l12 l13 l14 z16 b237=some r1:=h
 rw[L77_15]at h
 try cbv
 cases b237
 rotate_left
 ·replace h:=itT h
  try cbv
  refine seq_go ?_
  try cbv
  obtain rfl:=Option.some.inj h
  refine fin_go ?_
  try cbv
  exact⟨[],by trivial⟩
 replace h:=itF h
 try cbv
 refine seq_go ?_
 try cbv
 refine seq_go ?_
 try cbv
 replace h:=bO10_inv h
 obtain⟨b238,z239,z240,b241,b242,b243,b244,b245,b246,z247,hr,h⟩:=h
 refine call_go rfl rfl ?_
 try cbv
 refine call_with hM hI [.loc 256,.loc 32] (T98x5 _ hr) rfl (by simp) ⟨rfl,⟨rfl,trivial⟩⟩ ⟨trivial,⟨trivial,trivial⟩⟩ (by simp) ?_
 clear hr
 try cbv
 cases b238
 ·replace h:=itF h
  try cbv
  obtain rfl:=Option.some.inj h
  refine fin_go ?_
  try cbv
  exact⟨[],by trivial⟩
 replace h:=itT h
 try cbv
 replace h:=lenF_inv M h
 obtain⟨z248,hz,h⟩:=h
 refine⟨z248,hz,?_⟩
 clear hz
 try cbv
 replace h:=bO2_inv h
 obtain⟨b249,z250,hr,h⟩:=h
 refine call_go rfl rfl ?_
 try cbv
 refine call_with hM hI [.loc 32] ((ih _ (by omega)).2.1 hr) rfl (by simp) ⟨rfl,trivial⟩ ⟨trivial,trivial⟩ (by simp) ?_
 clear hr
 try cbv
 cases b249
 ·replace h:=itF h
  try cbv
  obtain rfl:=Option.some.inj h
  refine fin_go ?_
  try cbv
  exact⟨[],by trivial⟩
 replace h:=itT h
 try cbv
 replace h:=lenF_inv M h
 obtain⟨z251,hz,h⟩:=h
 refine⟨z251,hz,?_⟩
 clear hz
 try cbv
 replace h:=bO2_inv h
 obtain⟨b252,z253,hr,h⟩:=h
 refine call_go rfl rfl ?_
 try cbv
 refine call_with hM hI [.loc 32] ((ih _ (by omega)).2.1 hr) rfl (by simp) ⟨rfl,trivial⟩ ⟨trivial,trivial⟩ (by simp) ?_
 clear hr
 try cbv
 cases b252
 ·replace h:=itF h
  try cbv
  obtain rfl:=Option.some.inj h
  refine fin_go ?_
  try cbv
  exact⟨[],by trivial⟩
 replace h:=itT h
 try cbv
 replace h:=bO2_inv h
 obtain⟨b254,z255,hr,h⟩:=h
 refine call_go rfl rfl ?_
 try cbv
 refine call_with hM hI [.loc 3968,.loc 32] ((ih _ (by omega)).2.2.2.1 hr) rfl (by simp) ⟨rfl,⟨rfl,trivial⟩⟩ ⟨trivial,⟨trivial,trivial⟩⟩ (by simp) ?_
 clear hr
 try cbv
 obtain rfl:=Option.some.inj h
 refine fin_go ?_
 try cbv
 exact⟨[],by trivial⟩
theorem T77 (n:Nat):∀⦃z1 s2 s3 l4 z5 s6 l7 z8 s9 l10 l11 l12 l13 l14 z15 z16 r1⦄,F77 n z1 s2 s3 l4 z5 s6 l7 z8 s9 l10 l11 l12 l13 l14 z15 z16=some r1->
  Trip Tryz.prog inv 77 [.d (.agg [.int .u8 z1,.str s2,.str s3,.list false 1 l4,.int .u8 z5,.str s6,.list true 3 l7,.int .i64 z8,.str s9,.list false 1 l10,.list true 8 l11,.list true 15 l12,.list true 15 l13,.list true 3 l14,.int .i64 z15]),.d (.int .i64 z16)] [] (.v (.d (.bool r1))) [] []:=(G127 n).2.2.2.2
def F76 (n:Nat) (z1:Int) (s2:BA) (s3:BA) (l4:LD) (z5:Int) (s6:BA) (l7:LD) (z8:Int) (s9:BA) (l10:LD) (l11:LD) (l12:LD) (l13:LD) (l14:LD) (z15:Int) (z16:Int):Option (Bool×Int):=
 letF (IntKind.wrap .i64 (z16 - 1)) fun z17=>bO1 (F77 n z1 s2 s3 l4 z5 s6 l7 z8 s9 l10 l11 l12 l13 l14 z15 z17) fun b18=>some (b18,z16)
theorem T76 (n:Nat):∀⦃z1 s2 s3 l4 z5 s6 l7 z8 s9 l10 l11 l12 l13 l14 z15 z16 r1 r2⦄,F76 n z1 s2 s3 l4 z5 s6 l7 z8 s9 l10 l11 l12 l13 l14 z15 z16=some (r1,r2)->
    Trip Tryz.prog inv 76 [.d (.agg [.int .u8 z1,.str s2,.str s3,.list false 1 l4,.int .u8 z5,.str s6,.list true 3 l7,.int .i64 z8,.str s9,.list false 1 l10,.list true 8 l11,.list true 15 l12,.list true 15 l13,.list true 3 l14,.int .i64 z15]),.c (.ptr (.ext 0) 0)] [.cells [.d (.int .i64 z16)]] (.v (.d (.bool r1))) [.cells [.d (.int .i64 r2)]] []:=by
 intro z1 s2 s3 l4 z5 s6 l7 z8 s9 l10 l11 l12 l13 l14 z15 z16 r1 r2 h
 unfold F76 at h
 refine Trip.of tab_ok tab_one fol Tryz.func76 rfl (by kernel_rfl) rfl rfl rfl (fun M hM hI=>?_)
 try cbv
 refine seq_go ?_
 try cbv
 refine seq_go ?_
 try cbv
 replace h:=letF_inv h
 obtain⟨z17,hz,h⟩:=h
 refine⟨z17,hz,?_⟩
 clear hz
 try cbv
 replace h:=bO1_inv h
 obtain⟨b18,hr,h⟩:=h
 refine call_go rfl rfl ?_
 try cbv
 refine call_pure hM hI (T77 _ hr) rfl ?_
 clear hr
 try cbv
 obtain⟨rfl,rfl⟩:=inj2 h
 refine fin_go ?_
 try cbv
 exact⟨[],rfl,rfl,⟨rfl,trivial⟩,trivial,trivial⟩
end Go.Proofs.YtjmofeakajdbiaaGreatDoor
end
