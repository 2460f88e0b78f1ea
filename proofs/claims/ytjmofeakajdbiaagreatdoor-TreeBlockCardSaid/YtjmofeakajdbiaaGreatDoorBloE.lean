/- Part of a proof. No condition. (Part 5.) -/
import Derived.Test.YtjmofeakajdbiaaGreatDoorBloD
set_option linter.unusedVariables false
set_option linter.unusedSimpArgs false
set_option maxRecDepth 100000
set_option maxHeartbeats 40000000
set_option linter.unusedVariables false
noncomputable section
namespace Go.Proofs.YtjmofeakajdbiaaGreatDoor
open Go Go.AM
mutual
def L75_1:Nat->LD->Int->Int->Int->Option (Bool×Int)
 | 0,_,_,_,_=>none
 | n+1,l1,z2,z4,z5=>
  lenF l1 fun z6=>(if z4<z6 then (if z4<z2 then L75_2 n l1 z2 z4 z5 true else L75_2 n l1 z2 z4 z5 false)else L75_2 n l1 z2 z4 z5 false)
def L75_2:Nat->LD->Int->Int->Int->Bool->Option (Bool×Int)
 | 0,_,_,_,_,_=>none
 | n+1,l1,z2,z4,z5,b7=>
  (if b7=true then getF l1 z4 fun x8=>ds_t50 x8 fun z9 s10 s11 l12 z13 s14 l15 z16 s17 l18 l19 l20 l21 l22 z23=>bO2 (F76 n z9 s10 s11 l12 z13 s14 l15 z16 s17 l18 l19 l20 l21 l22 z23 z5) fun b24 z25=>letB (!b24) fun b26=>(if b26=true then some (false,z25)else letF (IntKind.wrap .i64 (z4+1)) fun z27=>L75_1 n l1 z2 z27 z25)else lenF l1 fun z28=>(if z28<=z2 then some (true,z5)else some (false,z5)))
end
def F75 (n:Nat) (l1:LD) (z2:Int) (z3:Int):Option (Bool×Int):=
 L75_1 n l1 z2 (0:Int) z3
theorem T75 (n:Nat):∀⦃l1 z2 z3 r1 r2⦄,F75 n l1 z2 z3=some (r1,r2)->
    Trip Tryz.prog inv 75 [.d (.list true 15 l1),.d (.int .i64 z2),.c (.fn 76 [.ext 0])] [.cells [.d (.int .i64 z3)]] (.v (.d (.bool r1))) [.cells [.d (.int .i64 r2)]] []:=by
 intro l1 z2 z3 r1 r2 h
 unfold F75 at h
 refine Trip.of tab_ok tab_one fol Tryz.func75 rfl (by kernel_rfl) rfl rfl rfl (fun M hM hI=>?_)
 try cbv
 refine seq_go ?_
 try cbv
 refine seq_go ?_
 try cbv
 refine seq_go ?_
 try cbv
 refine loop_inv (T:=Nat×Int×Int) [0,1,2,6,7] [.ext 0] 64 (fun t=>⟨[sT 0 15 l1,sI 1 z2,(2,.v (.c (.fn 76 [.ext 0]))),sB 6 false,sI 7 t.2.1],[(.ext 0,.cells [.d (.int .i64 t.2.2)])],64⟩)
   (fun t=>t.1<=n/\L75_1 t.1 l1 z2 t.2.1 t.2.2=some (r1,r2)) (fun t=>t.1) (n,((0:Int),z3)) ⟨Nat.le_refl _,h⟩ (by cbv) ?_
 clear h
 rintro⟨m1,z4,z5⟩ ⟨hm1,h⟩
 replace hm1:m1<=n:=hm1
 obtain _ | m1:=m1
 ·replace h:L75_1 0 l1 z2 z4 z5=some (r1,r2):=h
  rw[L75_1]at h
  cases h
 replace h:L75_1 (m1+1) l1 z2 z4 z5=some (r1,r2):=h
 rw[L75_1]at h
 try cbv
 refine seq_go ?_
 try cbv
 refine seq_joinB 16 [0,1,2,6,7,16] [.ext 0] 352 (fun m b=>m<=m1/\L75_2 m l1 z2 z4 z5 b=some (r1,r2)) ?_ ?_
 ·try cbv
  replace h:=lenF_inv M h
  obtain⟨z6,hz,h⟩:=h
  refine⟨z6,hz,?_⟩
  clear hz
  try cbv
  refine splitL (fun e=>?_) (fun e=>?_)
  ·replace h:=ite_t e h
   clear e
   try cbv
   refine splitL (fun e=>?_) (fun e=>?_)
   ·replace h:=ite_t e h
    clear e
    try cbv
    exact join_next (m1,true) [0,1,2,6,7,16] [.ext 0] 352 ⟨by omega,h⟩ (by cbv)
   replace h:=ite_f (Int.not_lt.2 e) h
   clear e
   try cbv
   exact join_next (m1,false) [0,1,2,6,7,16] [.ext 0] 352 ⟨by omega,h⟩ (by cbv)
  replace h:=ite_f (Int.not_lt.2 e) h
  clear e
  try cbv
  exact join_next (m1,false) [0,1,2,6,7,16] [.ext 0] 352 ⟨by omega,h⟩ (by cbv)
 clear h
 rintro⟨m2,b7⟩ ⟨hm2,h⟩
 try cbv
 replace hm2:m2<=m1:=hm2
 obtain _ | m2:=m2
 ·replace h:L75_2 0 l1 z2 z4 z5 b7=some (r1,r2):=h
  rw[L75_2]at h
  cases h
 replace h:L75_2 (m2+1) l1 z2 z4 z5 b7=some (r1,r2):=h
 rw[L75_2]at h
 try cbv
 cases b7
 ·replace h:=itF h
  try cbv
  refine seq_go ?_
  try cbv
  replace h:=lenF_inv M h
  obtain⟨z28,hz,h⟩:=h
  refine⟨z28,hz,?_⟩
  clear hz
  try cbv
  refine splitLe (fun e=>?_) (fun e=>?_)
  ·replace h:=ite_t e h
   clear e
   try cbv
   obtain⟨rfl,rfl⟩:=inj2 h
   refine fin_go ?_
   try cbv
   exact⟨[],rfl,rfl,⟨rfl,trivial⟩,trivial,trivial⟩
  replace h:=ite_f (Int.not_le.2 e) h
  clear e
  try cbv
  obtain⟨rfl,rfl⟩:=inj2 h
  refine fin_go ?_
  try cbv
  exact⟨[],rfl,rfl,⟨rfl,trivial⟩,trivial,trivial⟩
 replace h:=itT h
 try cbv
 refine seq_go ?_
 try cbv
 refine seq_go ?_
 try cbv
 replace h:=getF_inv h
 obtain⟨x8,⟨hx0,hx⟩,h⟩:=h
 refine⟨x8,hx0,hx,?_⟩
 clear hx0 hx
 replace h:=ds_t50_inv h
 obtain⟨z9,s10,s11,l12,z13,s14,l15,z16,s17,l18,l19,l20,l21,l22,z23,rfl,h⟩:=h
 try cbv
 replace h:=bO2_inv h
 obtain⟨b24,z25,hr,h⟩:=h
 refine call_go rfl rfl ?_
 try cbv
 refine call_with hM hI [.ext 0] (T76 _ hr) rfl (by simp) ⟨rfl,trivial⟩ ⟨trivial,trivial⟩ (by simp) ?_
 clear hr
 try cbv
 replace h:=letB_inv h
 obtain⟨b26,hz,h⟩:=h
 refine⟨b26,not_eq' hz,?_⟩
 clear hz
 try cbv
 cases b26
 ·replace h:=itF h
  try cbv
  replace h:=letF_inv h
  obtain⟨z27,hz,h⟩:=h
  refine⟨z27,hz,?_⟩
  clear hz
  try cbv
  exact loop_next (m2,(z27,z25)) [0,1,2,6,7] [.ext 0] 64 ⟨by omega,h⟩ (Nat.lt_succ_of_le (by omega)) (by cbv)
 replace h:=itT h
 try cbv
 refine seq_go ?_
 try cbv
 obtain⟨rfl,rfl⟩:=inj2 h
 refine fin_go ?_
 try cbv
 exact⟨[],rfl,rfl,⟨rfl,trivial⟩,trivial,trivial⟩
def L37_4:Nat->Int->BA->LD->Int->BA->LD->LD->Int->Int->BA->BA->BA->LD->LD->Int->Int->Int->Bool->Option (Bool)
 | 0,_,_,_,_,_,_,_,_,_,_,_,_,_,_,_,_,_,_=>none
 | n+1,z1,s2,l3,z4,s5,l6,l7,z8,z9,s10,s11,s12,l13,l14,z15,z16,z17,b61=>
  (if b61=true then bO1 (F74 n s2) fun b62=>(if b62=true then bO18 (F69 n false z1 s2 l3 z4 s5 l6 l7 z8 z9 s10 s11 s12 l13 l14 z15 z16 z17) fun b63 z64 s65 l66 z67 s68 l69 l70 z71 z72 s73 s74 s75 l76 l77 z78 z79 z80=>(if b63=true then letF (IntKind.wrap .i64 (z80 - 1)) fun z81=>bO1 (F55 n z67 s68 l69 z81) fun b82=>(if b82=true then bO1 (F53 n z71 z72 s73 s74 s75 l76 l77 z78) fun b83=>letB (!b83) fun b84=>(if b84=true then letF (IntKind.wrap .i64 (z80 - 1)) fun z85=>bO1 (F54 n z71 z72 s73 s74 s75 l76 l77 z78 z85) fun b86=>(if b86=true then lenF l70 fun z87=>bO2 (F75 n l70 z87 z80) fun b88 z89=>some b88 else some false)else some false)else some false)else some false)else some false)else some false)
def L37_3:Nat->Int->BA->LD->Int->BA->LD->LD->Int->Int->BA->BA->BA->LD->LD->Int->Int->Int->Bool->Bool->Option (Bool)
 | 0,_,_,_,_,_,_,_,_,_,_,_,_,_,_,_,_,_,_,_=>none
 | n+1,z1,s2,l3,z4,s5,l6,l7,z8,z9,s10,s11,s12,l13,l14,z15,z16,z17,b22,b42=>
  (if b42=true then (if b22=true then bO18 (F69x1 n true z1 s2 l3 z4 s5 l6 l7 z8 z9 s10 s11 s12 l13 l14 z15 z16 z17) fun b43 z44 s45 l46 z47 s48 l49 l50 z51 z52 s53 s54 s55 l56 l57 z58 z59 z60=>some b43 else some false)else (if z1=(3:Int)then L37_4 n z1 s2 l3 z4 s5 l6 l7 z8 z9 s10 s11 s12 l13 l14 z15 z16 z17 true else L37_4 n z1 s2 l3 z4 s5 l6 l7 z8 z9 s10 s11 s12 l13 l14 z15 z16 z17 false))
def L37_2:Nat->Int->BA->LD->Int->BA->LD->LD->Int->Int->BA->BA->BA->LD->LD->Int->Int->Int->Bool->Bool->Option (Bool)
 | 0,_,_,_,_,_,_,_,_,_,_,_,_,_,_,_,_,_,_,_=>none
 | n+1,z1,s2,l3,z4,s5,l6,l7,z8,z9,s10,s11,s12,l13,l14,z15,z16,z17,b22,b23=>
  (if b23=true then (if b22=true then bO18 (F69 n false z1 s2 l3 z4 s5 l6 l7 z8 z9 s10 s11 s12 l13 l14 z15 z16 z17) fun b24 z25 s26 l27 z28 s29 l30 l31 z32 z33 s34 s35 s36 l37 l38 z39 z40 z41=>some b24 else some false)else (if z1=(2:Int)then L37_3 n z1 s2 l3 z4 s5 l6 l7 z8 z9 s10 s11 s12 l13 l14 z15 z16 z17 b22 true else L37_3 n z1 s2 l3 z4 s5 l6 l7 z8 z9 s10 s11 s12 l13 l14 z15 z16 z17 b22 false))
def L37_1:Nat->Int->BA->LD->Int->BA->LD->LD->Int->Int->BA->BA->BA->LD->LD->Int->Int->Int->Bool->Option (Bool)
 | 0,_,_,_,_,_,_,_,_,_,_,_,_,_,_,_,_,_,_=>none
 | n+1,z1,s2,l3,z4,s5,l6,l7,z8,z9,s10,s11,s12,l13,l14,z15,z16,z17,b22=>
  (if z1=(1:Int)then L37_2 n z1 s2 l3 z4 s5 l6 l7 z8 z9 s10 s11 s12 l13 l14 z15 z16 z17 b22 true else L37_2 n z1 s2 l3 z4 s5 l6 l7 z8 z9 s10 s11 s12 l13 l14 z15 z16 z17 b22 false)
def F37 (n:Nat) (z1:Int) (s2:BA) (l3:LD) (z4:Int) (s5:BA) (l6:LD) (l7:LD) (z8:Int) (z9:Int) (s10:BA) (s11:BA) (s12:BA) (l13:LD) (l14:LD) (z15:Int) (z16:Int) (z17:Int):Option (Bool):=
 bO1 (F72 n z4 s5 l6) fun b18=>(if b18=true then lenF l7 fun z19=>(if z19=(0:Int)then bO1 (F62 n z8 z9 s10 s11 s12 l13 l14 z15 (0:Int) (0:Int) ByteArray.empty ByteArray.empty ByteArray.empty ([]:LD) ([]:LD) (0:Int)) fun b20=>(if b20=true then bO1 (F73 n s2) fun b21=>L37_1 n z1 s2 l3 z4 s5 l6 l7 z8 z9 s10 s11 s12 l13 l14 z15 z16 z17 b21 else L37_1 n z1 s2 l3 z4 s5 l6 l7 z8 z9 s10 s11 s12 l13 l14 z15 z16 z17 false)else L37_1 n z1 s2 l3 z4 s5 l6 l7 z8 z9 s10 s11 s12 l13 l14 z15 z16 z17 false)else L37_1 n z1 s2 l3 z4 s5 l6 l7 z8 z9 s10 s11 s12 l13 l14 z15 z16 z17 false)
theorem T37 (n:Nat):∀⦃z1 s2 l3 z4 s5 l6 l7 z8 z9 s10 s11 s12 l13 l14 z15 z16 z17 r1⦄,F37 n z1 s2 l3 z4 s5 l6 l7 z8 z9 s10 s11 s12 l13 l14 z15 z16 z17=some r1->
    Trip Tryz.prog inv 37 [.d (.agg [.int .u8 z1,.str s2,.list true 4 l3,.int .u8 z4,.str s5,.list true 3 l6,.list true 15 l7,.int .u8 z8,.int .i64 z9,.str s10,.str s11,.str s12,.list false 1 l13,.list true 8 l14,.int .i64 z15,.int .i64 z16]),.d (.int .i64 z17)] [] (.v (.d (.bool r1))) [] []:=by
 intro z1 s2 l3 z4 s5 l6 l7 z8 z9 s10 s11 s12 l13 l14 z15 z16 z17 r1 h
 unfold F37 at h
 refine Trip.of tab_ok tab_one fol Tryz.func37 rfl (by kernel_rfl) rfl rfl rfl (fun M hM hI=>?_)
 try cbv
 refine seq_go ?_
 try cbv
 refine seq_go ?_
 try cbv
 refine seq_joinB 6 [2,3,4,5,6] [.loc 0,.loc 32] 832 (fun m b=>m<=n/\L37_1 m z1 s2 l3 z4 s5 l6 l7 z8 z9 s10 s11 s12 l13 l14 z15 z16 z17 b=some r1) ?_ ?_
 ·try cbv
  replace h:=bO1_inv h
  obtain⟨b18,hr,h⟩:=h
  refine call_go rfl rfl ?_
  try cbv
  refine call_pure hM hI (T72 _ hr) rfl ?_
  clear hr
  try cbv
  cases b18
  ·replace h:=itF h
   try cbv
   exact join_next (n,false) [2,3,4,5,6] [.loc 0,.loc 32] 832 ⟨by omega,h⟩ (by cbv)
  replace h:=itT h
  try cbv
  replace h:=lenF_inv M h
  obtain⟨z19,hz,h⟩:=h
  refine⟨z19,hz,?_⟩
  clear hz
  try cbv
  refine splitI (fun e=>?_) (fun e=>?_)
  rotate_left
  ·replace h:=ite_f e h
   clear e
   try cbv
   exact join_next (n,false) [2,3,4,5,6] [.loc 0,.loc 32] 832 ⟨by omega,h⟩ (by cbv)
  replace h:=ite_t e h
  clear e
  try cbv
  replace h:=bO1_inv h
  obtain⟨b20,hr,h⟩:=h
  refine call_go rfl rfl ?_
  try cbv
  refine call_pure hM hI (T62 _ hr) rfl ?_
  clear hr
  try cbv
  cases b20
  ·replace h:=itF h
   try cbv
   exact join_next (n,false) [2,3,4,5,6] [.loc 0,.loc 32] 832 ⟨by omega,h⟩ (by cbv)
  replace h:=itT h
  try cbv
  replace h:=bO1_inv h
  obtain⟨b21,hr,h⟩:=h
  refine call_go rfl rfl ?_
  try cbv
  refine call_pure hM hI (T73 _ hr) rfl ?_
  clear hr
  try cbv
  exact join_next (n,b21) [2,3,4,5,6] [.loc 0,.loc 32] 832 ⟨by omega,h⟩ (by cbv)
 clear h
 rintro⟨m1,b22⟩ ⟨hm1,h⟩
 try cbv
 replace hm1:m1<=n:=hm1
 obtain _ | m1:=m1
 ·replace h:L37_1 0 z1 s2 l3 z4 s5 l6 l7 z8 z9 s10 s11 s12 l13 l14 z15 z16 z17 b22=some r1:=h
  rw[L37_1]at h
  cases h
 replace h:L37_1 (m1+1) z1 s2 l3 z4 s5 l6 l7 z8 z9 s10 s11 s12 l13 l14 z15 z16 z17 b22=some r1:=h
 rw[L37_1]at h
 try cbv
 refine seq_go ?_
 try cbv
 refine seq_go ?_
 try cbv
 refine seq_joinB 30 [2,3,4,5,6,29,30] [.loc 0,.loc 32] 960 (fun m b=>m<=m1/\L37_2 m z1 s2 l3 z4 s5 l6 l7 z8 z9 s10 s11 s12 l13 l14 z15 z16 z17 b22 b=some r1) ?_ ?_
 ·try cbv
  refine splitI (fun e=>?_) (fun e=>?_)
  ·replace h:=ite_t e h
   clear e
   try cbv
   exact join_next (m1,true) [2,3,4,5,6,29,30] [.loc 0,.loc 32] 960 ⟨by omega,h⟩ (by cbv)
  replace h:=ite_f e h
  clear e
  try cbv
  exact join_next (m1,false) [2,3,4,5,6,29,30] [.loc 0,.loc 32] 960 ⟨by omega,h⟩ (by cbv)
 clear h
 rintro⟨m2,b23⟩ ⟨hm2,h⟩
 try cbv
 replace hm2:m2<=m1:=hm2
 obtain _ | m2:=m2
 ·replace h:L37_2 0 z1 s2 l3 z4 s5 l6 l7 z8 z9 s10 s11 s12 l13 l14 z15 z16 z17 b22 b23=some r1:=h
  rw[L37_2]at h
  cases h
 replace h:L37_2 (m2+1) z1 s2 l3 z4 s5 l6 l7 z8 z9 s10 s11 s12 l13 l14 z15 z16 z17 b22 b23=some r1:=h
 rw[L37_2]at h
 try cbv
 cases b23
 rotate_left
 ·replace h:=itT h
  try cbv
  refine seq_go ?_
  try cbv
  cases b22
  ·replace h:=itF h
   try cbv
   obtain rfl:=Option.some.inj h
   refine fin_go ?_
   try cbv
   exact⟨[],by trivial⟩
  replace h:=itT h
  try cbv
  replace h:=bO18_inv h
  obtain⟨b24,z25,s26,l27,z28,s29,l30,l31,z32,z33,s34,s35,s36,l37,l38,z39,z40,z41,hr,h⟩:=h
  refine call_go rfl rfl ?_
  try cbv
  refine call_with hM hI [.loc 0,.loc 32] (T69 _ hr) rfl (by simp) ⟨rfl,⟨rfl,trivial⟩⟩ ⟨trivial,⟨trivial,trivial⟩⟩ (by simp) ?_
  clear hr
  try cbv
  obtain rfl:=Option.some.inj h
  refine fin_go ?_
  try cbv
  exact⟨[],by trivial⟩
 replace h:=itF h
 try cbv
 refine seq_joinB 37 [2,3,4,5,6,29,37] [.loc 0,.loc 32] 1024 (fun m b=>m<=m2/\L37_3 m z1 s2 l3 z4 s5 l6 l7 z8 z9 s10 s11 s12 l13 l14 z15 z16 z17 b22 b=some r1) ?_ ?_
 ·try cbv
  refine splitI (fun e=>?_) (fun e=>?_)
  ·replace h:=ite_t e h
   clear e
   try cbv
   exact join_next (m2,true) [2,3,4,5,6,29,37] [.loc 0,.loc 32] 1024 ⟨by omega,h⟩ (by cbv)
  replace h:=ite_f e h
  clear e
  try cbv
  exact join_next (m2,false) [2,3,4,5,6,29,37] [.loc 0,.loc 32] 1024 ⟨by omega,h⟩ (by cbv)
 clear h
 rintro⟨m3,b42⟩ ⟨hm3,h⟩
 try cbv
 replace hm3:m3<=m2:=hm3
 obtain _ | m3:=m3
 ·replace h:L37_3 0 z1 s2 l3 z4 s5 l6 l7 z8 z9 s10 s11 s12 l13 l14 z15 z16 z17 b22 b42=some r1:=h
  rw[L37_3]at h
  cases h
 replace h:L37_3 (m3+1) z1 s2 l3 z4 s5 l6 l7 z8 z9 s10 s11 s12 l13 l14 z15 z16 z17 b22 b42=some r1:=h
 rw[L37_3]at h
 try cbv
 cases b42
 rotate_left
 ·replace h:=itT h
  try cbv
  refine seq_go ?_
  try cbv
  cases b22
  ·replace h:=itF h
   try cbv
   obtain rfl:=Option.some.inj h
   refine fin_go ?_
   try cbv
   exact⟨[],by trivial⟩
  replace h:=itT h
  try cbv
  replace h:=bO18_inv h
  obtain⟨b43,z44,s45,l46,z47,s48,l49,l50,z51,z52,s53,s54,s55,l56,l57,z58,z59,z60,hr,h⟩:=h
  refine call_go rfl rfl ?_
  try cbv
  refine call_with hM hI [.loc 0,.loc 32] (T69x1 _ hr) rfl (by simp) ⟨rfl,⟨rfl,trivial⟩⟩ ⟨trivial,⟨trivial,trivial⟩⟩ (by simp) ?_
  clear hr
  try cbv
  obtain rfl:=Option.some.inj h
  refine fin_go ?_
  try cbv
  exact⟨[],by trivial⟩
 replace h:=itF h
 try cbv
 refine seq_joinB 44 [2,3,4,5,44] [.loc 0,.loc 32] 1088 (fun m b=>m<=m3/\L37_4 m z1 s2 l3 z4 s5 l6 l7 z8 z9 s10 s11 s12 l13 l14 z15 z16 z17 b=some r1) ?_ ?_
 ·try cbv
  refine splitI (fun e=>?_) (fun e=>?_)
  ·replace h:=ite_t e h
   clear e
   try cbv
   exact join_next (m3,true) [2,3,4,5,44] [.loc 0,.loc 32] 1088 ⟨by omega,h⟩ (by cbv)
  replace h:=ite_f e h
  clear e
  try cbv
  exact join_next (m3,false) [2,3,4,5,44] [.loc 0,.loc 32] 1088 ⟨by omega,h⟩ (by cbv)
 clear h
 rintro⟨m4,b61⟩ ⟨hm4,h⟩
 try cbv
 replace hm4:m4<=m3:=hm4
 obtain _ | m4:=m4
 ·replace h:L37_4 0 z1 s2 l3 z4 s5 l6 l7 z8 z9 s10 s11 s12 l13 l14 z15 z16 z17 b61=some r1:=h
  rw[L37_4]at h
  cases h
 replace h:L37_4 (m4+1) z1 s2 l3 z4 s5 l6 l7 z8 z9 s10 s11 s12 l13 l14 z15 z16 z17 b61=some r1:=h
 rw[L37_4]at h
 try cbv
 cases b61
 ·replace h:=itF h
  try cbv
  refine seq_go ?_
  try cbv
  obtain rfl:=Option.some.inj h
  refine fin_go ?_
  try cbv
  exact⟨[],by trivial⟩
 replace h:=itT h
 try cbv
 refine seq_go ?_
 try cbv
 replace h:=bO1_inv h
 obtain⟨b62,hr,h⟩:=h
 refine call_go rfl rfl ?_
 try cbv
 refine call_pure hM hI (T74 _ hr) rfl ?_
 clear hr
 try cbv
 cases b62
 ·replace h:=itF h
  try cbv
  obtain rfl:=Option.some.inj h
  refine fin_go ?_
  try cbv
  exact⟨[],by trivial⟩
 replace h:=itT h
 try cbv
 replace h:=bO18_inv h
 obtain⟨b63,z64,s65,l66,z67,s68,l69,l70,z71,z72,s73,s74,s75,l76,l77,z78,z79,z80,hr,h⟩:=h
 refine call_go rfl rfl ?_
 try cbv
 refine call_with hM hI [.loc 0,.loc 32] (T69 _ hr) rfl (by simp) ⟨rfl,⟨rfl,trivial⟩⟩ ⟨trivial,⟨trivial,trivial⟩⟩ (by simp) ?_
 clear hr
 try cbv
 cases b63
 ·replace h:=itF h
  try cbv
  obtain rfl:=Option.some.inj h
  refine fin_go ?_
  try cbv
  exact⟨[],by trivial⟩
 replace h:=itT h
 try cbv
 replace h:=letF_inv h
 obtain⟨z81,hz,h⟩:=h
 refine⟨z81,hz,?_⟩
 clear hz
 try cbv
 replace h:=bO1_inv h
 obtain⟨b82,hr,h⟩:=h
 refine call_go rfl rfl ?_
 try cbv
 refine call_pure hM hI (T55 _ hr) rfl ?_
 clear hr
 try cbv
 cases b82
 ·replace h:=itF h
  try cbv
  obtain rfl:=Option.some.inj h
  refine fin_go ?_
  try cbv
  exact⟨[],by trivial⟩
 replace h:=itT h
 try cbv
 replace h:=bO1_inv h
 obtain⟨b83,hr,h⟩:=h
 refine call_go rfl rfl ?_
 try cbv
 refine call_pure hM hI (T53 _ hr) rfl ?_
 clear hr
 try cbv
 replace h:=letB_inv h
 obtain⟨b84,hz,h⟩:=h
 refine⟨b84,not_eq' hz,?_⟩
 clear hz
 try cbv
 cases b84
 ·replace h:=itF h
  try cbv
  obtain rfl:=Option.some.inj h
  refine fin_go ?_
  try cbv
  exact⟨[],by trivial⟩
 replace h:=itT h
 try cbv
 replace h:=letF_inv h
 obtain⟨z85,hz,h⟩:=h
 refine⟨z85,hz,?_⟩
 clear hz
 try cbv
 replace h:=bO1_inv h
 obtain⟨b86,hr,h⟩:=h
 refine call_go rfl rfl ?_
 try cbv
 refine call_pure hM hI (T54 _ hr) rfl ?_
 clear hr
 try cbv
 cases b86
 ·replace h:=itF h
  try cbv
  obtain rfl:=Option.some.inj h
  refine fin_go ?_
  try cbv
  exact⟨[],by trivial⟩
 replace h:=itT h
 try cbv
 replace h:=lenF_inv M h
 obtain⟨z87,hz,h⟩:=h
 refine⟨z87,hz,?_⟩
 clear hz
 try cbv
 replace h:=bO2_inv h
 obtain⟨b88,z89,hr,h⟩:=h
 refine call_go rfl rfl ?_
 try cbv
 refine call_with hM hI [.loc 32] (T75 _ hr) rfl (by simp) ⟨rfl,trivial⟩ ⟨trivial,trivial⟩ (by simp) ?_
 clear hr
 try cbv
 obtain rfl:=Option.some.inj h
 refine fin_go ?_
 try cbv
 exact⟨[],by trivial⟩
def F36 (n:Nat) (z1:Int) (s2:BA) (l3:LD) (z4:Int) (s5:BA) (l6:LD) (l7:LD) (z8:Int) (z9:Int) (s10:BA) (s11:BA) (s12:BA) (l13:LD) (l14:LD) (z15:Int) (z16:Int):Option (Bool):=
 bO1 (F37 n z1 s2 l3 z4 s5 l6 l7 z8 z9 s10 s11 s12 l13 l14 z15 z16 (39:Int)) fun b17=>some b17
theorem T36 (n:Nat):∀⦃z1 s2 l3 z4 s5 l6 l7 z8 z9 s10 s11 s12 l13 l14 z15 z16 r1⦄,F36 n z1 s2 l3 z4 s5 l6 l7 z8 z9 s10 s11 s12 l13 l14 z15 z16=some r1->
    Trip Tryz.prog inv 36 [.d (.agg [.int .u8 z1,.str s2,.list true 4 l3,.int .u8 z4,.str s5,.list true 3 l6,.list true 15 l7,.int .u8 z8,.int .i64 z9,.str s10,.str s11,.str s12,.list false 1 l13,.list true 8 l14,.int .i64 z15,.int .i64 z16])] [] (.v (.d (.bool r1))) [] []:=by
 intro z1 s2 l3 z4 s5 l6 l7 z8 z9 s10 s11 s12 l13 l14 z15 z16 r1 h
 unfold F36 at h
 refine Trip.of tab_ok tab_one fol Tryz.func36 rfl (by kernel_rfl) rfl rfl rfl (fun M hM hI=>?_)
 try cbv
 refine seq_go ?_
 try cbv
 refine seq_go ?_
 try cbv
 replace h:=bO1_inv h
 obtain⟨b17,hr,h⟩:=h
 refine call_go rfl rfl ?_
 try cbv
 refine call_pure hM hI (T37 _ hr) rfl ?_
 clear hr
 try cbv
 obtain rfl:=Option.some.inj h
 refine fin_go ?_
 try cbv
 exact⟨[],by trivial⟩
mutual
def L35_1:Nat->LD->Int->Int->Option (Bool)
 | 0,_,_,_=>none
 | n+1,l1,z2,z3=>
  lenF l1 fun z4=>(if z3<z4 then (if z3<z2 then L35_2 n l1 z2 z3 true else L35_2 n l1 z2 z3 false)else L35_2 n l1 z2 z3 false)
def L35_2:Nat->LD->Int->Int->Bool->Option (Bool)
 | 0,_,_,_,_=>none
 | n+1,l1,z2,z3,b5=>
  (if b5=true then getF l1 z3 fun x6=>ds_t45 x6 fun z7 s8 l9 z10 s11 l12 l13 z14 z15 s16 s17 s18 l19 l20 z21 z22=>bO1 (F36 n z7 s8 l9 z10 s11 l12 l13 z14 z15 s16 s17 s18 l19 l20 z21 z22) fun b23=>letB (!b23) fun b24=>(if b24=true then some false else letF (IntKind.wrap .i64 (z3+1)) fun z25=>L35_1 n l1 z2 z25)else lenF l1 fun z26=>(if z26<=z2 then some true else some false))
end
def F35 (n:Nat) (l1:LD) (z2:Int):Option (Bool):=
 L35_1 n l1 z2 (0:Int)
theorem T35 (n:Nat):∀⦃l1 z2 r1⦄,F35 n l1 z2=some r1->
    Trip Tryz.prog inv 35 [.d (.list true 16 l1),.d (.int .i64 z2),.c (.fn 36 [])] [] (.v (.d (.bool r1))) [] []:=by
 intro l1 z2 r1 h
 unfold F35 at h
 refine Trip.of tab_ok tab_one fol Tryz.func35 rfl (by kernel_rfl) rfl rfl rfl (fun M hM hI=>?_)
 try cbv
 refine seq_go ?_
 try cbv
 refine seq_go ?_
 try cbv
 refine seq_go ?_
 try cbv
 refine loop_inv (T:=Nat×Int) [0,1,2,6,7] [] 64 (fun t=>⟨[sT 0 16 l1,sI 1 z2,(2,.v (.c (.fn 36 []))),sB 6 false,sI 7 t.2],[],64⟩)
   (fun t=>t.1<=n/\L35_1 t.1 l1 z2 t.2=some r1) (fun t=>t.1) (n,(0:Int)) ⟨Nat.le_refl _,h⟩ (by cbv) ?_
 clear h
 rintro⟨m1,z3⟩ ⟨hm1,h⟩
 replace hm1:m1<=n:=hm1
 obtain _ | m1:=m1
 ·replace h:L35_1 0 l1 z2 z3=some r1:=h
  rw[L35_1]at h
  cases h
 replace h:L35_1 (m1+1) l1 z2 z3=some r1:=h
 rw[L35_1]at h
 try cbv
 refine seq_go ?_
 try cbv
 refine seq_joinB 16 [0,1,2,6,7,16] [] 352 (fun m b=>m<=m1/\L35_2 m l1 z2 z3 b=some r1) ?_ ?_
 ·try cbv
  replace h:=lenF_inv M h
  obtain⟨z4,hz,h⟩:=h
  refine⟨z4,hz,?_⟩
  clear hz
  try cbv
  refine splitL (fun e=>?_) (fun e=>?_)
  ·replace h:=ite_t e h
   clear e
   try cbv
   refine splitL (fun e=>?_) (fun e=>?_)
   ·replace h:=ite_t e h
    clear e
    try cbv
    exact join_next (m1,true) [0,1,2,6,7,16] [] 352 ⟨by omega,h⟩ (by cbv)
   replace h:=ite_f (Int.not_lt.2 e) h
   clear e
   try cbv
   exact join_next (m1,false) [0,1,2,6,7,16] [] 352 ⟨by omega,h⟩ (by cbv)
  replace h:=ite_f (Int.not_lt.2 e) h
  clear e
  try cbv
  exact join_next (m1,false) [0,1,2,6,7,16] [] 352 ⟨by omega,h⟩ (by cbv)
 clear h
 rintro⟨m2,b5⟩ ⟨hm2,h⟩
 try cbv
 replace hm2:m2<=m1:=hm2
 obtain _ | m2:=m2
 ·replace h:L35_2 0 l1 z2 z3 b5=some r1:=h
  rw[L35_2]at h
  cases h
 replace h:L35_2 (m2+1) l1 z2 z3 b5=some r1:=h
 rw[L35_2]at h
 try cbv
 cases b5
 ·replace h:=itF h
  try cbv
  refine seq_go ?_
  try cbv
  replace h:=lenF_inv M h
  obtain⟨z26,hz,h⟩:=h
  refine⟨z26,hz,?_⟩
  clear hz
  try cbv
  refine splitLe (fun e=>?_) (fun e=>?_)
  ·replace h:=ite_t e h
   clear e
   try cbv
   obtain rfl:=Option.some.inj h
   refine fin_go ?_
   try cbv
   exact⟨[],by trivial⟩
  replace h:=ite_f (Int.not_le.2 e) h
  clear e
  try cbv
  obtain rfl:=Option.some.inj h
  refine fin_go ?_
  try cbv
  exact⟨[],by trivial⟩
 replace h:=itT h
 try cbv
 refine seq_go ?_
 try cbv
 refine seq_go ?_
 try cbv
 replace h:=getF_inv h
 obtain⟨x6,⟨hx0,hx⟩,h⟩:=h
 refine⟨x6,hx0,hx,?_⟩
 clear hx0 hx
 replace h:=ds_t45_inv h
 obtain⟨z7,s8,l9,z10,s11,l12,l13,z14,z15,s16,s17,s18,l19,l20,z21,z22,rfl,h⟩:=h
 try cbv
 replace h:=bO1_inv h
 obtain⟨b23,hr,h⟩:=h
 refine call_go rfl rfl ?_
 try cbv
 refine call_pure hM hI (T36 _ hr) rfl ?_
 clear hr
 try cbv
 replace h:=letB_inv h
 obtain⟨b24,hz,h⟩:=h
 refine⟨b24,not_eq' hz,?_⟩
 clear hz
 try cbv
 cases b24
 ·replace h:=itF h
  try cbv
  replace h:=letF_inv h
  obtain⟨z25,hz,h⟩:=h
  refine⟨z25,hz,?_⟩
  clear hz
  try cbv
  exact loop_next (m2,z25) [0,1,2,6,7] [] 64 ⟨by omega,h⟩ (Nat.lt_succ_of_le (by omega)) (by cbv)
 replace h:=itT h
 try cbv
 refine seq_go ?_
 try cbv
 obtain rfl:=Option.some.inj h
 refine fin_go ?_
 try cbv
 exact⟨[],by trivial⟩
def F10 (n:Nat) (l1:LD):Option (Bool):=
 bO1 (F35 n l1 (30:Int)) fun b2=>some b2
theorem T10 (n:Nat):∀⦃l1 r1⦄,F10 n l1=some r1->
    Trip Tryz.prog inv 10 [.d (.agg [.list true 16 l1])] [] (.v (.d (.bool r1))) [] []:=by
 intro l1 r1 h
 unfold F10 at h
 refine Trip.of tab_ok tab_one fol Tryz.func10 rfl (by kernel_rfl) rfl rfl rfl (fun M hM hI=>?_)
 try cbv
 refine seq_go ?_
 try cbv
 refine seq_go ?_
 try cbv
 replace h:=bO1_inv h
 obtain⟨b2,hr,h⟩:=h
 refine call_go rfl rfl ?_
 try cbv
 refine call_pure hM hI (T35 _ hr) rfl ?_
 clear hr
 try cbv
 obtain rfl:=Option.some.inj h
 refine fin_go ?_
 try cbv
 exact⟨[],by trivial⟩
mutual
def L86_1:Nat->LD->Int->Int->Int->Option (Int)
 | 0,_,_,_,_=>none
 | n+1,l3,z4,z5,z6=>
  (if z6<z4 then L86_2 n l3 z4 z5 z6 true else L86_2 n l3 z4 z5 z6 false)
def L86_2:Nat->LD->Int->Int->Int->Bool->Option (Int)
 | 0,_,_,_,_,_=>none
 | n+1,l3,z4,z5,z6,b7=>
  (if b7=true then getF l3 z6 fun x8=>ds_t33 x8 fun z9 s10 l11=>bO1 (F86 n z9 s10 l11) fun z12=>letF (if z12>z5 then z12 else z5) fun z13=>letF (IntKind.wrap .i64 (z6+1)) fun z14=>L86_1 n l3 z4 z13 z14 else letF (IntKind.wrap .i64 (z5+1)) fun z15=>some z15)
def F86:Nat->Int->BA->LD->Option (Int)
 | 0,_,_,_=>none
 | n+1,z1,s2,l3=>
  lenF l3 fun z4=>L86_1 n l3 z4 (0:Int) (0:Int)
end
theorem T86 (n:Nat):∀⦃z1 s2 l3 r1⦄,F86 n z1 s2 l3=some r1->
    Trip Tryz.prog inv 86 [.d (.agg [.int .u8 z1,.str s2,.list true 3 l3])] [] (.v (.d (.int .i64 r1))) [] []:=by
 induction n using Nat.strongRecOn with | _ n ih=>
 obtain _ | n:=n
 ·intro z1 s2 l3 r1 h
  cases (show (none:Option _)=some _ from h)
 intro z1 s2 l3 r1 h
 rw[F86]at h
 refine Trip.of tab_ok tab_one fol Tryz.func86 rfl (by kernel_rfl) rfl rfl rfl (fun M hM hI=>?_)
 try cbv
 refine seq_go ?_
 try cbv
 refine seq_go ?_
 try cbv
 refine seq_go ?_
 try cbv
 refine seq_go ?_
 try cbv
 replace h:=lenF_inv M h
 obtain⟨z4,hz,h⟩:=h
 refine⟨z4,hz,?_⟩
 clear hz
 try cbv
 refine loop_inv (T:=Nat×Int×Int) [2,3,7,8,9] [] 224 (fun t=>⟨[sI 2 0,sI 3 t.2.1,sT 7 3 l3,sI 8 z4,sI 9 t.2.2],[],224⟩)
   (fun t=>t.1<=n/\L86_1 t.1 l3 z4 t.2.1 t.2.2=some r1) (fun t=>t.1) (n,((0:Int),(0:Int))) ⟨Nat.le_refl _,h⟩ (by cbv) ?_
 clear h
 rintro⟨m1,z5,z6⟩ ⟨hm1,h⟩
 replace hm1:m1<=n:=hm1
 obtain _ | m1:=m1
 ·replace h:L86_1 0 l3 z4 z5 z6=some r1:=h
  rw[L86_1]at h
  cases h
 replace h:L86_1 (m1+1) l3 z4 z5 z6=some r1:=h
 rw[L86_1]at h
 try cbv
 refine seq_joinB 10 [2,3,7,8,9,10] [] 256 (fun m b=>m<=m1/\L86_2 m l3 z4 z5 z6 b=some r1) ?_ ?_
 ·try cbv
  refine splitL (fun e=>?_) (fun e=>?_)
  ·replace h:=ite_t e h
   clear e
   try cbv
   exact join_next (m1,true) [2,3,7,8,9,10] [] 256 ⟨by omega,h⟩ (by cbv)
  replace h:=ite_f (Int.not_lt.2 e) h
  clear e
  try cbv
  exact join_next (m1,false) [2,3,7,8,9,10] [] 256 ⟨by omega,h⟩ (by cbv)
 clear h
 rintro⟨m2,b7⟩ ⟨hm2,h⟩
 try cbv
 replace hm2:m2<=m1:=hm2
 obtain _ | m2:=m2
 ·replace h:L86_2 0 l3 z4 z5 z6 b7=some r1:=h
  rw[L86_2]at h
  cases h
 replace h:L86_2 (m2+1) l3 z4 z5 z6 b7=some r1:=h
 rw[L86_2]at h
 try cbv
 refine seq_go ?_
 try cbv
 cases b7
 ·replace h:=itF h
  try cbv
  refine seq_go ?_
  try cbv
  replace h:=letF_inv h
  obtain⟨z15,hz,h⟩:=h
  refine⟨z15,hz,?_⟩
  clear hz
  try cbv
  obtain rfl:=Option.some.inj h
  refine fin_go ?_
  try cbv
  exact⟨[],by trivial⟩
 replace h:=itT h
 try cbv
 refine seq_go ?_
 try cbv
 refine seq_go ?_
 try cbv
 replace h:=getF_inv h
 obtain⟨x8,⟨hx0,hx⟩,h⟩:=h
 refine⟨x8,hx0,hx,?_⟩
 clear hx0 hx
 replace h:=ds_t33_inv h
 obtain⟨z9,s10,l11,rfl,h⟩:=h
 try cbv
 replace h:=bO1_inv h
 obtain⟨z12,hr,h⟩:=h
 refine call_go rfl rfl ?_
 try cbv
 refine call_pure hM hI ((ih _ (by omega)) hr) rfl ?_
 clear hr
 try cbv
 replace h:=letF_inv h
 obtain⟨z13,hz,h⟩:=h
 refine⟨z13,hz,?_⟩
 clear hz
 try cbv
 replace h:=letF_inv h
 obtain⟨z14,hz,h⟩:=h
 refine⟨z14,hz,?_⟩
 clear hz
 try cbv
 exact loop_next (m2,(z13,z14)) [2,3,7,8,9] [] 224 ⟨by omega,h⟩ (Nat.lt_succ_of_le (by omega)) (by cbv)
mutual
def L87_1:Nat->LD->Int->Int->Int->Option (Int)
 | 0,_,_,_,_=>none
 | n+1,l7,z9,z10,z11=>
  (if z11<z9 then L87_2 n l7 z9 z10 z11 true else L87_2 n l7 z9 z10 z11 false)
def L87_2:Nat->LD->Int->Int->Int->Bool->Option (Int)
 | 0,_,_,_,_,_=>none
 | n+1,l7,z9,z10,z11,b12=>
  (if b12=true then getF l7 z11 fun x13=>ds_t39 x13 fun z14 z15 s16 s17 s18 l19 l20 z21=>bO1 (F87 n z14 z15 s16 s17 s18 l19 l20 z21) fun z22=>letF (if z22>z10 then z22 else z10) fun z23=>letF (IntKind.wrap .i64 (z11+1)) fun z24=>L87_1 n l7 z9 z23 z24 else letF (IntKind.wrap .i64 (z10+1)) fun z25=>some z25)
def F87:Nat->Int->Int->BA->BA->BA->LD->LD->Int->Option (Int)
 | 0,_,_,_,_,_,_,_,_=>none
 | n+1,z1,z2,s3,s4,s5,l6,l7,z8=>
  lenF l7 fun z9=>L87_1 n l7 z9 (0:Int) (0:Int)
end
theorem T87 (n:Nat):∀⦃z1 z2 s3 s4 s5 l6 l7 z8 r1⦄,F87 n z1 z2 s3 s4 s5 l6 l7 z8=some r1->
    Trip Tryz.prog inv 87 [.d (.agg [.int .u8 z1,.int .i64 z2,.str s3,.str s4,.str s5,.list false 1 l6,.list true 8 l7,.int .i64 z8])] [] (.v (.d (.int .i64 r1))) [] []:=by
 induction n using Nat.strongRecOn with | _ n ih=>
 obtain _ | n:=n
 ·intro z1 z2 s3 s4 s5 l6 l7 z8 r1 h
  cases (show (none:Option _)=some _ from h)
 intro z1 z2 s3 s4 s5 l6 l7 z8 r1 h
 rw[F87]at h
 refine Trip.of tab_ok tab_one fol Tryz.func87 rfl (by kernel_rfl) rfl rfl rfl (fun M hM hI=>?_)
 try cbv
 refine seq_go ?_
 try cbv
 refine seq_go ?_
 try cbv
 refine seq_go ?_
 try cbv
 refine seq_go ?_
 try cbv
 replace h:=lenF_inv M h
 obtain⟨z9,hz,h⟩:=h
 refine⟨z9,hz,?_⟩
 clear hz
 try cbv
 refine loop_inv (T:=Nat×Int×Int) [2,3,7,8,9] [] 224 (fun t=>⟨[sI 2 0,sI 3 t.2.1,sT 7 8 l7,sI 8 z9,sI 9 t.2.2],[],224⟩)
   (fun t=>t.1<=n/\L87_1 t.1 l7 z9 t.2.1 t.2.2=some r1) (fun t=>t.1) (n,((0:Int),(0:Int))) ⟨Nat.le_refl _,h⟩ (by cbv) ?_
 clear h
 rintro⟨m1,z10,z11⟩ ⟨hm1,h⟩
 replace hm1:m1<=n:=hm1
 obtain _ | m1:=m1
 ·replace h:L87_1 0 l7 z9 z10 z11=some r1:=h
  rw[L87_1]at h
  cases h
 replace h:L87_1 (m1+1) l7 z9 z10 z11=some r1:=h
 rw[L87_1]at h
 try cbv
 refine seq_joinB 10 [2,3,7,8,9,10] [] 256 (fun m b=>m<=m1/\L87_2 m l7 z9 z10 z11 b=some r1) ?_ ?_
 ·try cbv
  refine splitL (fun e=>?_) (fun e=>?_)
  ·replace h:=ite_t e h
   clear e
   try cbv
   exact join_next (m1,true) [2,3,7,8,9,10] [] 256 ⟨by omega,h⟩ (by cbv)
  replace h:=ite_f (Int.not_lt.2 e) h
  clear e
  try cbv
  exact join_next (m1,false) [2,3,7,8,9,10] [] 256 ⟨by omega,h⟩ (by cbv)
 clear h
 rintro⟨m2,b12⟩ ⟨hm2,h⟩
 try cbv
 replace hm2:m2<=m1:=hm2
 obtain _ | m2:=m2
 ·replace h:L87_2 0 l7 z9 z10 z11 b12=some r1:=h
  rw[L87_2]at h
  cases h
 replace h:L87_2 (m2+1) l7 z9 z10 z11 b12=some r1:=h
 rw[L87_2]at h
 try cbv
 refine seq_go ?_
 try cbv
 cases b12
 ·replace h:=itF h
  try cbv
  refine seq_go ?_
  try cbv
  replace h:=letF_inv h
  obtain⟨z25,hz,h⟩:=h
  refine⟨z25,hz,?_⟩
  clear hz
  try cbv
  obtain rfl:=Option.some.inj h
  refine fin_go ?_
  try cbv
  exact⟨[],by trivial⟩
 replace h:=itT h
 try cbv
 refine seq_go ?_
 try cbv
 refine seq_go ?_
 try cbv
 replace h:=getF_inv h
 obtain⟨x13,⟨hx0,hx⟩,h⟩:=h
 refine⟨x13,hx0,hx,?_⟩
 clear hx0 hx
 replace h:=ds_t39_inv h
 obtain⟨z14,z15,s16,s17,s18,l19,l20,z21,rfl,h⟩:=h
 try cbv
 replace h:=bO1_inv h
 obtain⟨z22,hr,h⟩:=h
 refine call_go rfl rfl ?_
 try cbv
 refine call_pure hM hI ((ih _ (by omega)) hr) rfl ?_
 clear hr
 try cbv
 replace h:=letF_inv h
 obtain⟨z23,hz,h⟩:=h
 refine⟨z23,hz,?_⟩
 clear hz
 try cbv
 replace h:=letF_inv h
 obtain⟨z24,hz,h⟩:=h
 refine⟨z24,hz,?_⟩
 clear hz
 try cbv
 exact loop_next (m2,(z23,z24)) [2,3,7,8,9] [] 224 ⟨by omega,h⟩ (Nat.lt_succ_of_le (by omega)) (by cbv)
def F89 (n:Nat) (z1:Int) (s2:BA) (s3:BA) (l4:LD) (z5:Int) (s6:BA) (l7:LD) (z8:Int) (s9:BA) (l10:LD) (l11:LD) (l12:LD) (l13:LD) (l14:LD) (z15:Int):Option (Int×BA×BA×LD×Int×BA×LD×Int×BA×LD×LD×LD×LD×LD×Int):=
 some (z1,s2,s3,l4,z5,s6,l7,z8,s9,l10,l11,l12,l13,l14,z15)
theorem T89 (n:Nat):∀⦃z1 s2 s3 l4 z5 s6 l7 z8 s9 l10 l11 l12 l13 l14 z15 r1 r2 r3 r4 r5 r6 r7 r8 r9 r10 r11 r12 r13 r14 r15⦄,F89 n z1 s2 s3 l4 z5 s6 l7 z8 s9 l10 l11 l12 l13 l14 z15=some (r1,r2,r3,r4,r5,r6,r7,r8,r9,r10,r11,r12,r13,r14,r15)->
    Trip Tryz.prog inv 89 [.d (.agg [.int .u8 z1,.str s2,.str s3,.list false 1 l4,.int .u8 z5,.str s6,.list true 3 l7,.int .i64 z8,.str s9,.list false 1 l10,.list true 8 l11,.list true 15 l12,.list true 15 l13,.list true 3 l14,.int .i64 z15])] [] (.v (.c (.fn 138 [.loc 0]))) [] [.cells [.d (.int .u8 r1),.d (.str r2),.d (.str r3),.d (.list false 1 r4),.d (.int .u8 r5),.d (.str r6),.d (.list true 3 r7),.d (.int .i64 r8),.d (.str r9),.d (.list false 1 r10),.d (.list true 8 r11),.d (.list true 15 r12),.d (.list true 15 r13),.d (.list true 3 r14),.d (.int .i64 r15)]]:=by
 intro z1 s2 s3 l4 z5 s6 l7 z8 s9 l10 l11 l12 l13 l14 z15 r1 r2 r3 r4 r5 r6 r7 r8 r9 r10 r11 r12 r13 r14 r15 h
 unfold F89 at h
 refine Trip.of tab_ok tab_one fol Tryz.func89 rfl (by kernel_rfl) rfl rfl rfl (fun M hM hI=>?_)
 try cbv
 refine seq_go ?_
 try cbv
 refine seq_go ?_
 try cbv
 obtain⟨rfl,rfl,rfl,rfl,rfl,rfl,rfl,rfl,rfl,rfl,rfl,rfl,rfl,rfl,rfl⟩:=inj15 h
 refine fin_go ?_
 try cbv
 exact⟨[.loc 0],rfl,rfl,trivial,⟨rfl,trivial⟩,trivial⟩
mutual
def F88r0:Nat->Int->BA->BA->LD->Int->BA->LD->Int->BA->LD->LD->LD->LD->LD->Int->Int->Option (Int)
 | 0,_,_,_,_,_,_,_,_,_,_,_,_,_,_,_,_=>none
 | n+1,z1,s2,s3,l4,z5,s6,l7,z8,s9,l10,l11,l12,l13,l14,z15,z16=>
  bO1 (F88 n z1 s2 s3 l4 z5 s6 l7 z8 s9 l10 l11 l12 l13 l14 z15) fun z17=>letF (if z17>z16 then z17 else z16) fun z18=>some z18
def L138_1:Nat->Int->BA->BA->LD->Int->BA->LD->Int->BA->LD->LD->LD->LD->LD->Int->Int->Int->Option (Int×Int×BA×BA×LD×Int×BA×LD×Int×BA×LD×LD×LD×LD×LD×Int)
 | 0,_,_,_,_,_,_,_,_,_,_,_,_,_,_,_,_,_=>none
 | n+1,z2,s3,s4,l5,z6,s7,l8,z9,s10,l11,l12,l13,l14,l15,z16,z17,z18=>
  (if z17<(2:Int)then L138_2 n z2 s3 s4 l5 z6 s7 l8 z9 s10 l11 l12 l13 l14 l15 z16 z17 z18 true else L138_2 n z2 s3 s4 l5 z6 s7 l8 z9 s10 l11 l12 l13 l14 l15 z16 z17 z18 false)
def L138_2:Nat->Int->BA->BA->LD->Int->BA->LD->Int->BA->LD->LD->LD->LD->LD->Int->Int->Int->Bool->Option (Int×Int×BA×BA×LD×Int×BA×LD×Int×BA×LD×LD×LD×LD×LD×Int)
 | 0,_,_,_,_,_,_,_,_,_,_,_,_,_,_,_,_,_,_=>none
 | n+1,z2,s3,s4,l5,z6,s7,l8,z9,s10,l11,l12,l13,l14,l15,z16,z17,z18,b19=>
  (if b19=true then getF ([.list true 15 l13,.list true 15 l14]) z17 fun x20=>ds_listtrue15 x20 fun l21=>lenF l21 fun z22=>L138_3 n z2 s3 s4 l5 z6 s7 l8 z9 s10 l11 l12 l13 l14 l15 z16 z17 l21 z22 (0:Int) z18 else lenF l15 fun z45=>L138_5 n z2 s3 s4 l5 z6 s7 l8 z9 s10 l11 l12 l13 l14 l15 z16 z45 (0:Int) z18)
def L138_3:Nat->Int->BA->BA->LD->Int->BA->LD->Int->BA->LD->LD->LD->LD->LD->Int->Int->LD->Int->Int->Int->Option (Int×Int×BA×BA×LD×Int×BA×LD×Int×BA×LD×LD×LD×LD×LD×Int)
 | 0,_,_,_,_,_,_,_,_,_,_,_,_,_,_,_,_,_,_,_,_=>none
 | n+1,z2,s3,s4,l5,z6,s7,l8,z9,s10,l11,l12,l13,l14,l15,z16,z17,l21,z22,z23,z24=>
  (if z23<z22 then L138_4 n z2 s3 s4 l5 z6 s7 l8 z9 s10 l11 l12 l13 l14 l15 z16 z17 l21 z22 z23 z24 true else L138_4 n z2 s3 s4 l5 z6 s7 l8 z9 s10 l11 l12 l13 l14 l15 z16 z17 l21 z22 z23 z24 false)
def L138_4:Nat->Int->BA->BA->LD->Int->BA->LD->Int->BA->LD->LD->LD->LD->LD->Int->Int->LD->Int->Int->Int->Bool->Option (Int×Int×BA×BA×LD×Int×BA×LD×Int×BA×LD×LD×LD×LD×LD×Int)
 | 0,_,_,_,_,_,_,_,_,_,_,_,_,_,_,_,_,_,_,_,_,_=>none
 | n+1,z2,s3,s4,l5,z6,s7,l8,z9,s10,l11,l12,l13,l14,l15,z16,z17,l21,z22,z23,z24,b25=>
  (if b25=true then getF l21 z23 fun x26=>ds_t50 x26 fun z27 s28 s29 l30 z31 s32 l33 z34 s35 l36 l37 l38 l39 l40 z41=>bO1 (F88r0 n z27 s28 s29 l30 z31 s32 l33 z34 s35 l36 l37 l38 l39 l40 z41 z24) fun z42=>letF (IntKind.wrap .i64 (z23+1)) fun z43=>L138_3 n z2 s3 s4 l5 z6 s7 l8 z9 s10 l11 l12 l13 l14 l15 z16 z17 l21 z22 z43 z42 else letF (IntKind.wrap .i64 (z17+1)) fun z44=>L138_1 n z2 s3 s4 l5 z6 s7 l8 z9 s10 l11 l12 l13 l14 l15 z16 z44 z24)
def L138_5:Nat->Int->BA->BA->LD->Int->BA->LD->Int->BA->LD->LD->LD->LD->LD->Int->Int->Int->Int->Option (Int×Int×BA×BA×LD×Int×BA×LD×Int×BA×LD×LD×LD×LD×LD×Int)
 | 0,_,_,_,_,_,_,_,_,_,_,_,_,_,_,_,_,_,_=>none
 | n+1,z2,s3,s4,l5,z6,s7,l8,z9,s10,l11,l12,l13,l14,l15,z16,z45,z46,z47=>
  (if z46<z45 then L138_6 n z2 s3 s4 l5 z6 s7 l8 z9 s10 l11 l12 l13 l14 l15 z16 z45 z46 z47 true else L138_6 n z2 s3 s4 l5 z6 s7 l8 z9 s10 l11 l12 l13 l14 l15 z16 z45 z46 z47 false)
def L138_6:Nat->Int->BA->BA->LD->Int->BA->LD->Int->BA->LD->LD->LD->LD->LD->Int->Int->Int->Int->Bool->Option (Int×Int×BA×BA×LD×Int×BA×LD×Int×BA×LD×LD×LD×LD×LD×Int)
 | 0,_,_,_,_,_,_,_,_,_,_,_,_,_,_,_,_,_,_,_=>none
 | n+1,z2,s3,s4,l5,z6,s7,l8,z9,s10,l11,l12,l13,l14,l15,z16,z45,z46,z47,b48=>
  (if b48=true then getF l15 z46 fun x49=>ds_t95 x49 fun s50 s51 l52=>lenF l52 fun z53=>L138_7 n z2 s3 s4 l5 z6 s7 l8 z9 s10 l11 l12 l13 l14 l15 z16 z45 z46 l52 z53 (0:Int) z47 else some (z47,z2,s3,s4,l5,z6,s7,l8,z9,s10,l11,l12,l13,l14,l15,z16))
def L138_7:Nat->Int->BA->BA->LD->Int->BA->LD->Int->BA->LD->LD->LD->LD->LD->Int->Int->Int->LD->Int->Int->Int->Option (Int×Int×BA×BA×LD×Int×BA×LD×Int×BA×LD×LD×LD×LD×LD×Int)
 | 0,_,_,_,_,_,_,_,_,_,_,_,_,_,_,_,_,_,_,_,_,_=>none
 | n+1,z2,s3,s4,l5,z6,s7,l8,z9,s10,l11,l12,l13,l14,l15,z16,z45,z46,l52,z53,z54,z55=>
  (if z54<z53 then L138_8 n z2 s3 s4 l5 z6 s7 l8 z9 s10 l11 l12 l13 l14 l15 z16 z45 z46 l52 z53 z54 z55 true else L138_8 n z2 s3 s4 l5 z6 s7 l8 z9 s10 l11 l12 l13 l14 l15 z16 z45 z46 l52 z53 z54 z55 false)
def L138_8:Nat->Int->BA->BA->LD->Int->BA->LD->Int->BA->LD->LD->LD->LD->LD->Int->Int->Int->LD->Int->Int->Int->Bool->Option (Int×Int×BA×BA×LD×Int×BA×LD×Int×BA×LD×LD×LD×LD×LD×Int)
 | 0,_,_,_,_,_,_,_,_,_,_,_,_,_,_,_,_,_,_,_,_,_,_=>none
 | n+1,z2,s3,s4,l5,z6,s7,l8,z9,s10,l11,l12,l13,l14,l15,z16,z45,z46,l52,z53,z54,z55,b56=>
  (if b56=true then getF l52 z54 fun x57=>ds_t50 x57 fun z58 s59 s60 l61 z62 s63 l64 z65 s66 l67 l68 l69 l70 l71 z72=>bO1 (F88r0 n z58 s59 s60 l61 z62 s63 l64 z65 s66 l67 l68 l69 l70 l71 z72 z55) fun z73=>letF (IntKind.wrap .i64 (z54+1)) fun z74=>L138_7 n z2 s3 s4 l5 z6 s7 l8 z9 s10 l11 l12 l13 l14 l15 z16 z45 z46 l52 z53 z74 z73 else letF (IntKind.wrap .i64 (z46+1)) fun z75=>L138_5 n z2 s3 s4 l5 z6 s7 l8 z9 s10 l11 l12 l13 l14 l15 z16 z45 z75 z55)
def F138:Nat->Int->Int->BA->BA->LD->Int->BA->LD->Int->BA->LD->LD->LD->LD->LD->Int->Option (Int×Int×BA×BA×LD×Int×BA×LD×Int×BA×LD×LD×LD×LD×LD×Int)
 | 0,_,_,_,_,_,_,_,_,_,_,_,_,_,_,_,_=>none
 | n+1,z1,z2,s3,s4,l5,z6,s7,l8,z9,s10,l11,l12,l13,l14,l15,z16=>
  L138_1 n z2 s3 s4 l5 z6 s7 l8 z9 s10 l11 l12 l13 l14 l15 z16 (0:Int) z1
def L88_1:Nat->Int->BA->BA->LD->Int->BA->LD->Int->BA->LD->LD->LD->LD->LD->Int->Bool->Option (Int)
 | 0,_,_,_,_,_,_,_,_,_,_,_,_,_,_,_,_=>none
 | n+1,z1,s2,s3,l4,z5,s6,l7,z8,s9,l10,l11,l12,l13,l14,z15,b16=>
  (if b16=true then bO1 (F86 n z5 s6 l7) fun z17=>L88_2 n z1 s2 s3 l4 z5 s6 l7 z8 s9 l10 l11 l12 l13 l14 z15 z17 else L88_2 n z1 s2 s3 l4 z5 s6 l7 z8 s9 l10 l11 l12 l13 l14 z15 (0:Int))
def L88_2:Nat->Int->BA->BA->LD->Int->BA->LD->Int->BA->LD->LD->LD->LD->LD->Int->Int->Option (Int)
 | 0,_,_,_,_,_,_,_,_,_,_,_,_,_,_,_,_=>none
 | n+1,z1,s2,s3,l4,z5,s6,l7,z8,s9,l10,l11,l12,l13,l14,z15,z18=>
  lenF l11 fun z19=>L88_3 n z1 s2 s3 l4 z5 s6 l7 z8 s9 l10 l11 l12 l13 l14 z15 z19 (0:Int) z18
def L88_3:Nat->Int->BA->BA->LD->Int->BA->LD->Int->BA->LD->LD->LD->LD->LD->Int->Int->Int->Int->Option (Int)
 | 0,_,_,_,_,_,_,_,_,_,_,_,_,_,_,_,_,_,_=>none
 | n+1,z1,s2,s3,l4,z5,s6,l7,z8,s9,l10,l11,l12,l13,l14,z15,z19,z20,z21=>
  (if z20<z19 then L88_4 n z1 s2 s3 l4 z5 s6 l7 z8 s9 l10 l11 l12 l13 l14 z15 z19 z20 z21 true else L88_4 n z1 s2 s3 l4 z5 s6 l7 z8 s9 l10 l11 l12 l13 l14 z15 z19 z20 z21 false)
def L88_4:Nat->Int->BA->BA->LD->Int->BA->LD->Int->BA->LD->LD->LD->LD->LD->Int->Int->Int->Int->Bool->Option (Int)
 | 0,_,_,_,_,_,_,_,_,_,_,_,_,_,_,_,_,_,_,_=>none
 | n+1,z1,s2,s3,l4,z5,s6,l7,z8,s9,l10,l11,l12,l13,l14,z15,z19,z20,z21,b22=>
  (if b22=true then getF l11 z20 fun x23=>ds_t39 x23 fun z24 z25 s26 s27 s28 l29 l30 z31=>bO1 (F87 n z24 z25 s26 s27 s28 l29 l30 z31) fun z32=>letF (if z32>z21 then z32 else z21) fun z33=>letF (IntKind.wrap .i64 (z20+1)) fun z34=>L88_3 n z1 s2 s3 l4 z5 s6 l7 z8 s9 l10 l11 l12 l13 l14 z15 z19 z34 z33 else bO15 (F89 n z1 s2 s3 l4 z5 s6 l7 z8 s9 l10 l11 l12 l13 l14 z15) fun z35 s36 s37 l38 z39 s40 l41 z42 s43 l44 l45 l46 l47 l48 z49=>bO16 (F138 n z21 z35 s36 s37 l38 z39 s40 l41 z42 s43 l44 l45 l46 l47 l48 z49) fun z50 z51 s52 s53 l54 z55 s56 l57 z58 s59 l60 l61 l62 l63 l64 z65=>letF (IntKind.wrap .i64 (z50+1)) fun z66=>some z66)
def F88:Nat->Int->BA->BA->LD->Int->BA->LD->Int->BA->LD->LD->LD->LD->LD->Int->Option (Int)
 | 0,_,_,_,_,_,_,_,_,_,_,_,_,_,_,_=>none
 | n+1,z1,s2,s3,l4,z5,s6,l7,z8,s9,l10,l11,l12,l13,l14,z15=>
  (if z1=(12:Int)then L88_1 n z1 s2 s3 l4 z5 s6 l7 z8 s9 l10 l11 l12 l13 l14 z15 true else L88_1 n z1 s2 s3 l4 z5 s6 l7 z8 s9 l10 l11 l12 l13 l14 z15 false)
end
theorem G88r0 (n:Nat):(∀⦃z1 s2 s3 l4 z5 s6 l7 z8 s9 l10 l11 l12 l13 l14 z15 z16 r1⦄,F88r0 n z1 s2 s3 l4 z5 s6 l7 z8 s9 l10 l11 l12 l13 l14 z15 z16=some r1->
    RoundK Tryz.prog inv (rf88_0 ()) [(3,.v (.c (.ptr (.ext 0) 0)))] [.d (.agg [.int .u8 z1,.str s2,.str s3,.list false 1 l4,.int .u8 z5,.str s6,.list true 3 l7,.int .i64 z8,.str s9,.list false 1 l10,.list true 8 l11,.list true 15 l12,.list true 15 l13,.list true 3 l14,.int .i64 z15])] [.cells [.d (.int .i64 z16)]] fun j p n=>j=none/\p=[.cells [.d (.int .i64 r1)]]/\n=[])/\
    (∀⦃z1 z2 s3 s4 l5 z6 s7 l8 z9 s10 l11 l12 l13 l14 l15 z16 r1 r2 r3 r4 r5 r6 r7 r8 r9 r10 r11 r12 r13 r14 r15 r16⦄,F138 n z1 z2 s3 s4 l5 z6 s7 l8 z9 s10 l11 l12 l13 l14 l15 z16=some (r1,r2,r3,r4,r5,r6,r7,r8,r9,r10,r11,r12,r13,r14,r15,r16)->
    Trip Tryz.prog inv 138 [.c (.yl (.ext 0)),.c (.ptr (.ext 2) 0)] [.rnd rf88_0 [(3,.v (.c (.ptr (.ext 1) 0)))],.cells [.d (.int .i64 z1)],.cells [.d (.int .u8 z2),.d (.str s3),.d (.str s4),.d (.list false 1 l5),.d (.int .u8 z6),.d (.str s7),.d (.list true 3 l8),.d (.int .i64 z9),.d (.str s10),.d (.list false 1 l11),.d (.list true 8 l12),.d (.list true 15 l13),.d (.list true 15 l14),.d (.list true 3 l15),.d (.int .i64 z16)]] (.t []) [.rnd rf88_0 [(3,.v (.c (.ptr (.ext 1) 0)))],.cells [.d (.int .i64 r1)],.cells [.d (.int .u8 r2),.d (.str r3),.d (.str r4),.d (.list false 1 r5),.d (.int .u8 r6),.d (.str r7),.d (.list true 3 r8),.d (.int .i64 r9),.d (.str r10),.d (.list false 1 r11),.d (.list true 8 r12),.d (.list true 15 r13),.d (.list true 15 r14),.d (.list true 3 r15),.d (.int .i64 r16)]] [])/\
    (∀⦃z1 s2 s3 l4 z5 s6 l7 z8 s9 l10 l11 l12 l13 l14 z15 r1⦄,F88 n z1 s2 s3 l4 z5 s6 l7 z8 s9 l10 l11 l12 l13 l14 z15=some r1->
    Trip Tryz.prog inv 88 [.d (.agg [.int .u8 z1,.str s2,.str s3,.list false 1 l4,.int .u8 z5,.str s6,.list true 3 l7,.int .i64 z8,.str s9,.list false 1 l10,.list true 8 l11,.list true 15 l12,.list true 15 l13,.list true 3 l14,.int .i64 z15])] [] (.v (.d (.int .i64 r1))) [] []):=by
 induction n using Nat.strongRecOn with | _ n ih=>
 obtain _ | n:=n
 ·refine⟨?_,?_,?_⟩
  ·intro z1 s2 s3 l4 z5 s6 l7 z8 s9 l10 l11 l12 l13 l14 z15 z16 r1 h
   cases (show (none:Option _)=some _ from h)
  ·intro z1 z2 s3 s4 l5 z6 s7 l8 z9 s10 l11 l12 l13 l14 l15 z16 r1 r2 r3 r4 r5 r6 r7 r8 r9 r10 r11 r12 r13 r14 r15 r16 h
   cases (show (none:Option _)=some _ from h)
  intro z1 s2 s3 l4 z5 s6 l7 z8 s9 l10 l11 l12 l13 l14 z15 r1 h
  cases (show (none:Option _)=some _ from h)
 refine⟨?_,?_,?_⟩
 ·intro z1 s2 s3 l4 z5 s6 l7 z8 s9 l10 l11 l12 l13 l14 z15 z16 r1 h
  rw[F88r0]at h
  refine RoundK.of' tab_ok tab_one fol rfl rfl rfl rfl rfl (by kernel_rfl) (fun M hM hI=>?_)
  try cbv
  replace h:=bO1_inv h
  obtain⟨z17,hr,h⟩:=h
  first | refine .inr (.inl ⟨[],?_⟩) | refine .inl ⟨[],?_⟩
  try cbv
  refine call_pure hM hI ((ih _ (by omega)).2.2 hr) rfl ?_
  clear hr
  try cbv
  replace h:=letF_inv h
  obtain⟨z18,hz,h⟩:=h
  refine⟨z18,hz,?_⟩
  clear hz
  try cbv
  refine drawn ?_ ?_
  ·show _=true
   kernel_rfl
  try cbv
  obtain rfl:=Option.some.inj h
  refine⟨_,_,⟨rfl,rfl,rfl⟩,[],?_⟩
  try cbv
  exact⟨[],rfl,⟨rfl,trivial⟩,trivial,trivial⟩
 ·intro z1 z2 s3 s4 l5 z6 s7 l8 z9 s10 l11 l12 l13 l14 l15 z16 r1 r2 r3 r4 r5 r6 r7 r8 r9 r10 r11 r12 r13 r14 r15 r16 h
  rw[F138]at h
  refine Trip.of tab_ok tab_one fol Tryz.func138 rfl (by kernel_rfl) rfl rfl rfl (fun M hM hI=>?_)
  try cbv
  refine seq_go ?_
  try cbv
  refine seq_go ?_
  try cbv
  refine⟨false,?_⟩
  try cbv
  refine⟨true,?_⟩
  try cbv
  refine⟨2,(M.lenI_eq _).trans rfl,?_⟩
  try cbv
  refine loop_inv (T:=Nat×Int×Int) [0,1,15,16,17] [.ext 0,.ext 1,.ext 2] 224 (fun t=>⟨[(0,.v (.c (.yl (.ext 0)))),sE 1 2,(15,.v (.c (.tl false 1 ([.list true 15 l13,.list true 15 l14])))),sI 16 2,sI 17 t.2.1],[(.ext 0,.rnd rf88_0 [sE 3 1]),(.ext 1,.cells [.d (.int .i64 t.2.2)]),(.ext 2,.cells [.d (.int .u8 z2),.d (.str s3),.d (.str s4),.d (.list false 1 l5),.d (.int .u8 z6),.d (.str s7),.d (.list true 3 l8),.d (.int .i64 z9),.d (.str s10),.d (.list false 1 l11),.d (.list true 8 l12),.d (.list true 15 l13),.d (.list true 15 l14),.d (.list true 3 l15),.d (.int .i64 z16)])],224⟩)
    (fun t=>t.1<=n/\L138_1 t.1 z2 s3 s4 l5 z6 s7 l8 z9 s10 l11 l12 l13 l14 l15 z16 t.2.1 t.2.2=some (r1,r2,r3,r4,r5,r6,r7,r8,r9,r10,r11,r12,r13,r14,r15,r16)) (fun t=>t.1) (n,((0:Int),z1)) ⟨Nat.le_refl _,h⟩ (by cbv) ?_
  clear h
  rintro⟨m1,z17,z18⟩ ⟨hm1,h⟩
  replace hm1:m1<=n:=hm1
  obtain _ | m1:=m1
  ·replace h:L138_1 0 z2 s3 s4 l5 z6 s7 l8 z9 s10 l11 l12 l13 l14 l15 z16 z17 z18=some (r1,r2,r3,r4,r5,r6,r7,r8,r9,r10,r11,r12,r13,r14,r15,r16):=h
   rw[L138_1]at h
   cases h
  replace h:L138_1 (m1+1) z2 s3 s4 l5 z6 s7 l8 z9 s10 l11 l12 l13 l14 l15 z16 z17 z18=some (r1,r2,r3,r4,r5,r6,r7,r8,r9,r10,r11,r12,r13,r14,r15,r16):=h
  rw[L138_1]at h
  try cbv
  refine seq_joinB 18 [0,1,15,16,17,18] [.ext 0,.ext 1,.ext 2] 256 (fun m b=>m<=m1/\L138_2 m z2 s3 s4 l5 z6 s7 l8 z9 s10 l11 l12 l13 l14 l15 z16 z17 z18 b=some (r1,r2,r3,r4,r5,r6,r7,r8,r9,r10,r11,r12,r13,r14,r15,r16)) ?_ ?_
  ·try cbv
   refine splitL (fun e=>?_) (fun e=>?_)
   ·replace h:=ite_t e h
    clear e
    try cbv
    exact join_next (m1,true) [0,1,15,16,17,18] [.ext 0,.ext 1,.ext 2] 256 ⟨by omega,h⟩ (by cbv)
   replace h:=ite_f (Int.not_lt.2 e) h
   clear e
   try cbv
   exact join_next (m1,false) [0,1,15,16,17,18] [.ext 0,.ext 1,.ext 2] 256 ⟨by omega,h⟩ (by cbv)
  clear h
  rintro⟨m2,b19⟩ ⟨hm2,h⟩
  try cbv
  replace hm2:m2<=m1:=hm2
  obtain _ | m2:=m2
  ·replace h:L138_2 0 z2 s3 s4 l5 z6 s7 l8 z9 s10 l11 l12 l13 l14 l15 z16 z17 z18 b19=some (r1,r2,r3,r4,r5,r6,r7,r8,r9,r10,r11,r12,r13,r14,r15,r16):=h
   rw[L138_2]at h
   cases h
  replace h:L138_2 (m2+1) z2 s3 s4 l5 z6 s7 l8 z9 s10 l11 l12 l13 l14 l15 z16 z17 z18 b19=some (r1,r2,r3,r4,r5,r6,r7,r8,r9,r10,r11,r12,r13,r14,r15,r16):=h
  rw[L138_2]at h
  try cbv
  refine seq_go ?_
  try cbv
  cases b19
  rotate_left
  ·replace h:=itT h
   try cbv
   refine seq_go ?_
   try cbv
   refine seq_go ?_
   try cbv
   replace h:=getF_inv h
   obtain⟨x20,⟨hx0,hx⟩,h⟩:=h
   refine⟨x20,hx0,hx,?_⟩
   clear hx0 hx
   replace h:=ds_listtrue15_inv h
   obtain⟨l21,rfl,h⟩:=h
   try cbv
   refine seq_go ?_
   try cbv
   replace h:=lenF_inv M h
   obtain⟨z22,hz,h⟩:=h
   refine⟨z22,hz,?_⟩
   clear hz
   try cbv
   refine loop_inv (T:=Nat×Int×Int) [0,1,15,16,17,21,22,23] [.ext 0,.ext 1,.ext 2] 448 (fun t=>⟨[(0,.v (.c (.yl (.ext 0)))),sE 1 2,(15,.v (.c (.tl false 1 ([.list true 15 l13,.list true 15 l14])))),sI 16 2,sI 17 z17,sT 21 15 l21,sI 22 z22,sI 23 t.2.1],[(.ext 0,.rnd rf88_0 [sE 3 1]),(.ext 1,.cells [.d (.int .i64 t.2.2)]),(.ext 2,.cells [.d (.int .u8 z2),.d (.str s3),.d (.str s4),.d (.list false 1 l5),.d (.int .u8 z6),.d (.str s7),.d (.list true 3 l8),.d (.int .i64 z9),.d (.str s10),.d (.list false 1 l11),.d (.list true 8 l12),.d (.list true 15 l13),.d (.list true 15 l14),.d (.list true 3 l15),.d (.int .i64 z16)])],448⟩)
     (fun t=>t.1<=m2/\L138_3 t.1 z2 s3 s4 l5 z6 s7 l8 z9 s10 l11 l12 l13 l14 l15 z16 z17 l21 z22 t.2.1 t.2.2=some (r1,r2,r3,r4,r5,r6,r7,r8,r9,r10,r11,r12,r13,r14,r15,r16)) (fun t=>t.1) (m2,((0:Int),z18)) ⟨Nat.le_refl _,h⟩ (by cbv) ?_
   clear h
   rintro⟨m3,z23,z24⟩ ⟨hm3,h⟩
   replace hm3:m3<=m2:=hm3
   obtain _ | m3:=m3
   ·replace h:L138_3 0 z2 s3 s4 l5 z6 s7 l8 z9 s10 l11 l12 l13 l14 l15 z16 z17 l21 z22 z23 z24=some (r1,r2,r3,r4,r5,r6,r7,r8,r9,r10,r11,r12,r13,r14,r15,r16):=h
    rw[L138_3]at h
    cases h
   replace h:L138_3 (m3+1) z2 s3 s4 l5 z6 s7 l8 z9 s10 l11 l12 l13 l14 l15 z16 z17 l21 z22 z23 z24=some (r1,r2,r3,r4,r5,r6,r7,r8,r9,r10,r11,r12,r13,r14,r15,r16):=h
   rw[L138_3]at h
   try cbv
   refine seq_joinB 24 [0,1,15,16,17,21,22,23,24] [.ext 0,.ext 1,.ext 2] 480 (fun m b=>m<=m3/\L138_4 m z2 s3 s4 l5 z6 s7 l8 z9 s10 l11 l12 l13 l14 l15 z16 z17 l21 z22 z23 z24 b=some (r1,r2,r3,r4,r5,r6,r7,r8,r9,r10,r11,r12,r13,r14,r15,r16)) ?_ ?_
   ·try cbv
    refine splitL (fun e=>?_) (fun e=>?_)
    ·replace h:=ite_t e h
     clear e
     try cbv
     exact join_next (m3,true) [0,1,15,16,17,21,22,23,24] [.ext 0,.ext 1,.ext 2] 480 ⟨by omega,h⟩ (by cbv)
    replace h:=ite_f (Int.not_lt.2 e) h
    clear e
    try cbv
    exact join_next (m3,false) [0,1,15,16,17,21,22,23,24] [.ext 0,.ext 1,.ext 2] 480 ⟨by omega,h⟩ (by cbv)
   clear h
   rintro⟨m4,b25⟩ ⟨hm4,h⟩
   try cbv
   replace hm4:m4<=m3:=hm4
   obtain _ | m4:=m4
   ·replace h:L138_4 0 z2 s3 s4 l5 z6 s7 l8 z9 s10 l11 l12 l13 l14 l15 z16 z17 l21 z22 z23 z24 b25=some (r1,r2,r3,r4,r5,r6,r7,r8,r9,r10,r11,r12,r13,r14,r15,r16):=h
    rw[L138_4]at h
    cases h
   replace h:L138_4 (m4+1) z2 s3 s4 l5 z6 s7 l8 z9 s10 l11 l12 l13 l14 l15 z16 z17 l21 z22 z23 z24 b25=some (r1,r2,r3,r4,r5,r6,r7,r8,r9,r10,r11,r12,r13,r14,r15,r16):=h
   rw[L138_4]at h
   try cbv
   refine seq_go ?_
   try cbv
   cases b25
   ·replace h:=itF h
    try cbv
    replace h:=letF_inv h
    obtain⟨z44,hz,h⟩:=h
    refine⟨z44,hz,?_⟩
    clear hz
    try cbv
    exact loop_next (m4,(z44,z24)) [0,1,15,16,17] [.ext 0,.ext 1,.ext 2] 224 ⟨by omega,h⟩ (Nat.lt_succ_of_le (by omega)) (by cbv)
   replace h:=itT h
   try cbv
   refine seq_go ?_
   try cbv
   refine seq_go ?_
   try cbv
   replace h:=getF_inv h
   obtain⟨x26,⟨hx0,hx⟩,h⟩:=h
   refine⟨x26,hx0,hx,?_⟩
   clear hx0 hx
   replace h:=ds_t50_inv h
   obtain⟨z27,s28,s29,l30,z31,s32,l33,z34,s35,l36,l37,l38,l39,l40,z41,rfl,h⟩:=h
   try cbv
   refine seq_go ?_
   try cbv
   replace h:=bO1_inv h
   obtain⟨z42,hr,h⟩:=h
   refine yl_with hM hI [.ext 1] (sl0:=[(3,.v (.c (.ptr (.ext 0) 0)))]) rfl rfl rfl rfl ((ih _ (by omega)).1 hr) rfl rfl rfl (by simp) ⟨rfl,trivial⟩ ⟨trivial,trivial⟩ (by simp) ?_
   clear hr
   try cbv
   refine⟨false,rfl,?_⟩
   try cbv
   replace h:=letF_inv h
   obtain⟨z43,hz,h⟩:=h
   refine⟨z43,hz,?_⟩
   clear hz
   try cbv
   exact loop_next (m4,(z43,z42)) [0,1,15,16,17,21,22,23] [.ext 0,.ext 1,.ext 2] 448 ⟨by omega,h⟩ (Nat.lt_succ_of_le (by omega)) (by cbv)
  replace h:=itF h
  try cbv
  refine seq_go ?_
  try cbv
  replace h:=lenF_inv M h
  obtain⟨z45,hz,h⟩:=h
  refine⟨z45,hz,?_⟩
  clear hz
  try cbv
  refine loop_inv (T:=Nat×Int×Int) [0,34,35,36] [.ext 0,.ext 1,.ext 2] 384 (fun t=>⟨[(0,.v (.c (.yl (.ext 0)))),sT 34 3 l15,sI 35 z45,sI 36 t.2.1],[(.ext 0,.rnd rf88_0 [sE 3 1]),(.ext 1,.cells [.d (.int .i64 t.2.2)]),(.ext 2,.cells [.d (.int .u8 z2),.d (.str s3),.d (.str s4),.d (.list false 1 l5),.d (.int .u8 z6),.d (.str s7),.d (.list true 3 l8),.d (.int .i64 z9),.d (.str s10),.d (.list false 1 l11),.d (.list true 8 l12),.d (.list true 15 l13),.d (.list true 15 l14),.d (.list true 3 l15),.d (.int .i64 z16)])],384⟩)
    (fun t=>t.1<=m2/\L138_5 t.1 z2 s3 s4 l5 z6 s7 l8 z9 s10 l11 l12 l13 l14 l15 z16 z45 t.2.1 t.2.2=some (r1,r2,r3,r4,r5,r6,r7,r8,r9,r10,r11,r12,r13,r14,r15,r16)) (fun t=>t.1) (m2,((0:Int),z18)) ⟨Nat.le_refl _,h⟩ (by cbv) ?_
  clear h
  rintro⟨m5,z46,z47⟩ ⟨hm5,h⟩
  replace hm5:m5<=m2:=hm5
  obtain _ | m5:=m5
  ·replace h:L138_5 0 z2 s3 s4 l5 z6 s7 l8 z9 s10 l11 l12 l13 l14 l15 z16 z45 z46 z47=some (r1,r2,r3,r4,r5,r6,r7,r8,r9,r10,r11,r12,r13,r14,r15,r16):=h
   rw[L138_5]at h
   cases h
  replace h:L138_5 (m5+1) z2 s3 s4 l5 z6 s7 l8 z9 s10 l11 l12 l13 l14 l15 z16 z45 z46 z47=some (r1,r2,r3,r4,r5,r6,r7,r8,r9,r10,r11,r12,r13,r14,r15,r16):=h
  rw[L138_5]at h
  try cbv
  refine seq_joinB 37 [0,34,35,36,37] [.ext 0,.ext 1,.ext 2] 416 (fun m b=>m<=m5/\L138_6 m z2 s3 s4 l5 z6 s7 l8 z9 s10 l11 l12 l13 l14 l15 z16 z45 z46 z47 b=some (r1,r2,r3,r4,r5,r6,r7,r8,r9,r10,r11,r12,r13,r14,r15,r16)) ?_ ?_
  ·try cbv
   refine splitL (fun e=>?_) (fun e=>?_)
   ·replace h:=ite_t e h
    clear e
    try cbv
    exact join_next (m5,true) [0,34,35,36,37] [.ext 0,.ext 1,.ext 2] 416 ⟨by omega,h⟩ (by cbv)
   replace h:=ite_f (Int.not_lt.2 e) h
   clear e
   try cbv
   exact join_next (m5,false) [0,34,35,36,37] [.ext 0,.ext 1,.ext 2] 416 ⟨by omega,h⟩ (by cbv)
  clear h
  rintro⟨m6,b48⟩ ⟨hm6,h⟩
  try cbv
  replace hm6:m6<=m5:=hm6
  obtain _ | m6:=m6
  ·replace h:L138_6 0 z2 s3 s4 l5 z6 s7 l8 z9 s10 l11 l12 l13 l14 l15 z16 z45 z46 z47 b48=some (r1,r2,r3,r4,r5,r6,r7,r8,r9,r10,r11,r12,r13,r14,r15,r16):=h
   rw[L138_6]at h
   cases h
  replace h:L138_6 (m6+1) z2 s3 s4 l5 z6 s7 l8 z9 s10 l11 l12 l13 l14 l15 z16 z45 z46 z47 b48=some (r1,r2,r3,r4,r5,r6,r7,r8,r9,r10,r11,r12,r13,r14,r15,r16):=h
  rw[L138_6]at h
  try cbv
  refine seq_go ?_
  try cbv
  cases b48
  ·replace h:=itF h
   try cbv
   obtain⟨rfl,rfl,rfl,rfl,rfl,rfl,rfl,rfl,rfl,rfl,rfl,rfl,rfl,rfl,rfl,rfl⟩:=inj16 h
   refine fin_go ?_
   try cbv
   exact⟨[],rfl,rfl,⟨rfl,⟨rfl,⟨rfl,trivial⟩⟩⟩,trivial,trivial⟩
  replace h:=itT h
  try cbv
  refine seq_go ?_
  try cbv
  refine seq_go ?_
  try cbv
  replace h:=getF_inv h
  obtain⟨x49,⟨hx0,hx⟩,h⟩:=h
  refine⟨x49,hx0,hx,?_⟩
  clear hx0 hx
  replace h:=ds_t95_inv h
  obtain⟨s50,s51,l52,rfl,h⟩:=h
  try cbv
  refine seq_go ?_
  try cbv
  replace h:=lenF_inv M h
  obtain⟨z53,hz,h⟩:=h
  refine⟨z53,hz,?_⟩
  clear hz
  try cbv
  refine loop_inv (T:=Nat×Int×Int) [0,34,35,36,41,42,43] [.ext 0,.ext 1,.ext 2] 672 (fun t=>⟨[(0,.v (.c (.yl (.ext 0)))),sT 34 3 l15,sI 35 z45,sI 36 z46,sT 41 15 l52,sI 42 z53,sI 43 t.2.1],[(.ext 0,.rnd rf88_0 [sE 3 1]),(.ext 1,.cells [.d (.int .i64 t.2.2)]),(.ext 2,.cells [.d (.int .u8 z2),.d (.str s3),.d (.str s4),.d (.list false 1 l5),.d (.int .u8 z6),.d (.str s7),.d (.list true 3 l8),.d (.int .i64 z9),.d (.str s10),.d (.list false 1 l11),.d (.list true 8 l12),.d (.list true 15 l13),.d (.list true 15 l14),.d (.list true 3 l15),.d (.int .i64 z16)])],672⟩)
    (fun t=>t.1<=m6/\L138_7 t.1 z2 s3 s4 l5 z6 s7 l8 z9 s10 l11 l12 l13 l14 l15 z16 z45 z46 l52 z53 t.2.1 t.2.2=some (r1,r2,r3,r4,r5,r6,r7,r8,r9,r10,r11,r12,r13,r14,r15,r16)) (fun t=>t.1) (m6,((0:Int),z47)) ⟨Nat.le_refl _,h⟩ (by cbv) ?_
  clear h
  rintro⟨m7,z54,z55⟩ ⟨hm7,h⟩
  replace hm7:m7<=m6:=hm7
  obtain _ | m7:=m7
  ·replace h:L138_7 0 z2 s3 s4 l5 z6 s7 l8 z9 s10 l11 l12 l13 l14 l15 z16 z45 z46 l52 z53 z54 z55=some (r1,r2,r3,r4,r5,r6,r7,r8,r9,r10,r11,r12,r13,r14,r15,r16):=h
   rw[L138_7]at h
   cases h
  replace h:L138_7 (m7+1) z2 s3 s4 l5 z6 s7 l8 z9 s10 l11 l12 l13 l14 l15 z16 z45 z46 l52 z53 z54 z55=some (r1,r2,r3,r4,r5,r6,r7,r8,r9,r10,r11,r12,r13,r14,r15,r16):=h
  rw[L138_7]at h
  try cbv
  refine seq_joinB 44 [0,34,35,36,41,42,43,44] [.ext 0,.ext 1,.ext 2] 704 (fun m b=>m<=m7/\L138_8 m z2 s3 s4 l5 z6 s7 l8 z9 s10 l11 l12 l13 l14 l15 z16 z45 z46 l52 z53 z54 z55 b=some (r1,r2,r3,r4,r5,r6,r7,r8,r9,r10,r11,r12,r13,r14,r15,r16)) ?_ ?_
  ·try cbv
   refine splitL (fun e=>?_) (fun e=>?_)
   ·replace h:=ite_t e h
    clear e
    try cbv
    exact join_next (m7,true) [0,34,35,36,41,42,43,44] [.ext 0,.ext 1,.ext 2] 704 ⟨by omega,h⟩ (by cbv)
   replace h:=ite_f (Int.not_lt.2 e) h
   clear e
   try cbv
   exact join_next (m7,false) [0,34,35,36,41,42,43,44] [.ext 0,.ext 1,.ext 2] 704 ⟨by omega,h⟩ (by cbv)
  clear h
  rintro⟨m8,b56⟩ ⟨hm8,h⟩
  try cbv
  replace hm8:m8<=m7:=hm8
  obtain _ | m8:=m8
  ·replace h:L138_8 0 z2 s3 s4 l5 z6 s7 l8 z9 s10 l11 l12 l13 l14 l15 z16 z45 z46 l52 z53 z54 z55 b56=some (r1,r2,r3,r4,r5,r6,r7,r8,r9,r10,r11,r12,r13,r14,r15,r16):=h
   rw[L138_8]at h
   cases h
  replace h:L138_8 (m8+1) z2 s3 s4 l5 z6 s7 l8 z9 s10 l11 l12 l13 l14 l15 z16 z45 z46 l52 z53 z54 z55 b56=some (r1,r2,r3,r4,r5,r6,r7,r8,r9,r10,r11,r12,r13,r14,r15,r16):=h
  rw[L138_8]at h
  try cbv
  refine seq_go ?_
  try cbv
  cases b56
  ·replace h:=itF h
   try cbv
   replace h:=letF_inv h
   obtain⟨z75,hz,h⟩:=h
   refine⟨z75,hz,?_⟩
   clear hz
   try cbv
   exact loop_next (m8,(z75,z55)) [0,34,35,36] [.ext 0,.ext 1,.ext 2] 384 ⟨by omega,h⟩ (Nat.lt_succ_of_le (by omega)) (by cbv)
  replace h:=itT h
  try cbv
  refine seq_go ?_
  try cbv
  refine seq_go ?_
  try cbv
  replace h:=getF_inv h
  obtain⟨x57,⟨hx0,hx⟩,h⟩:=h
  refine⟨x57,hx0,hx,?_⟩
  clear hx0 hx
  replace h:=ds_t50_inv h
  obtain⟨z58,s59,s60,l61,z62,s63,l64,z65,s66,l67,l68,l69,l70,l71,z72,rfl,h⟩:=h
  try cbv
  refine seq_go ?_
  try cbv
  replace h:=bO1_inv h
  obtain⟨z73,hr,h⟩:=h
  refine yl_with hM hI [.ext 1] (sl0:=[(3,.v (.c (.ptr (.ext 0) 0)))]) rfl rfl rfl rfl ((ih _ (by omega)).1 hr) rfl rfl rfl (by simp) ⟨rfl,trivial⟩ ⟨trivial,trivial⟩ (by simp) ?_
  clear hr
  try cbv
  refine⟨false,rfl,?_⟩
  try cbv
  replace h:=letF_inv h
  obtain⟨z74,hz,h⟩:=h
  refine⟨z74,hz,?_⟩
  clear hz
  try cbv
  exact loop_next (m8,(z74,z73)) [0,34,35,36,41,42,43] [.ext 0,.ext 1,.ext 2] 672 ⟨by omega,h⟩ (Nat.lt_succ_of_le (by omega)) (by cbv)
 intro z1 s2 s3 l4 z5 s6 l7 z8 s9 l10 l11 l12 l13 l14 z15 r1 h
 rw[F88]at h
 refine Trip.of tab_ok tab_one fol Tryz.func88 rfl (by kernel_rfl) rfl rfl rfl (fun M hM hI=>?_)
 try cbv
 refine seq_go ?_
 try cbv
 refine seq_go ?_
 try cbv
 refine seq_join (T:=Nat×Int) (fun t=>⟨[sL 1 0,sI 2 0,sL 3 64],[(.loc 0,.cells [.d (.int .u8 z1),.d (.str s2),.d (.str s3),.d (.list false 1 l4),.d (.int .u8 z5),.d (.str s6),.d (.list true 3 l7),.d (.int .i64 z8),.d (.str s9),.d (.list false 1 l10),.d (.list true 8 l11),.d (.list true 15 l12),.d (.list true 15 l13),.d (.list true 3 l14),.d (.int .i64 z15)]),(.loc 64,.cells [.d (.int .i64 t.2)])],352⟩) (fun t=>t.1<=n/\L88_2 t.1 z1 s2 s3 l4 z5 s6 l7 z8 s9 l10 l11 l12 l13 l14 z15 t.2=some r1) ?_ ?_
 ·try cbv
  refine seq_joinB 9 [1,2,3,9] [.loc 0,.loc 64] 224 (fun m b=>m<=n/\L88_1 m z1 s2 s3 l4 z5 s6 l7 z8 s9 l10 l11 l12 l13 l14 z15 b=some r1) ?_ ?_
  ·try cbv
   refine splitI (fun e=>?_) (fun e=>?_)
   ·replace h:=ite_t e h
    clear e
    try cbv
    exact join_next (n,true) [1,2,3,9] [.loc 0,.loc 64] 224 ⟨by omega,h⟩ (by cbv)
   replace h:=ite_f e h
   clear e
   try cbv
   exact join_next (n,false) [1,2,3,9] [.loc 0,.loc 64] 224 ⟨by omega,h⟩ (by cbv)
  clear h
  rintro⟨m1,b16⟩ ⟨hm1,h⟩
  try cbv
  replace hm1:m1<=n:=hm1
  obtain _ | m1:=m1
  ·replace h:L88_1 0 z1 s2 s3 l4 z5 s6 l7 z8 s9 l10 l11 l12 l13 l14 z15 b16=some r1:=h
   rw[L88_1]at h
   cases h
  replace h:L88_1 (m1+1) z1 s2 s3 l4 z5 s6 l7 z8 s9 l10 l11 l12 l13 l14 z15 b16=some r1:=h
  rw[L88_1]at h
  try cbv
  cases b16
  ·replace h:=itF h
   try cbv
   exact join_next (m1,(0:Int)) [1,2,3] [.loc 0,.loc 64] 352 ⟨by omega,h⟩ (by cbv)
  replace h:=itT h
  try cbv
  replace h:=bO1_inv h
  obtain⟨z17,hr,h⟩:=h
  refine call_go rfl rfl ?_
  try cbv
  refine call_pure hM hI (T86 _ hr) rfl ?_
  clear hr
  try cbv
  exact join_next (m1,z17) [1,2,3] [.loc 0,.loc 64] 352 ⟨by omega,h⟩ (by cbv)
 clear h
 rintro⟨m2,z18⟩ ⟨hm2,h⟩
 replace hm2:m2<=n:=hm2
 obtain _ | m2:=m2
 ·replace h:L88_2 0 z1 s2 s3 l4 z5 s6 l7 z8 s9 l10 l11 l12 l13 l14 z15 z18=some r1:=h
  rw[L88_2]at h
  cases h
 replace h:L88_2 (m2+1) z1 s2 s3 l4 z5 s6 l7 z8 s9 l10 l11 l12 l13 l14 z15 z18=some r1:=h
 rw[L88_2]at h
 try cbv
 refine seq_go ?_
 try cbv
 refine seq_go ?_
 try cbv
 replace h:=lenF_inv M h
 obtain⟨z19,hz,h⟩:=h
 refine⟨z19,hz,?_⟩
 clear hz
 try cbv
 refine loop_inv (T:=Nat×Int×Int) [1,2,3,14,15,16] [.loc 0,.loc 64] 480 (fun t=>⟨[sL 1 0,sI 2 0,sL 3 64,sT 14 8 l11,sI 15 z19,sI 16 t.2.1],[(.loc 0,.cells [.d (.int .u8 z1),.d (.str s2),.d (.str s3),.d (.list false 1 l4),.d (.int .u8 z5),.d (.str s6),.d (.list true 3 l7),.d (.int .i64 z8),.d (.str s9),.d (.list false 1 l10),.d (.list true 8 l11),.d (.list true 15 l12),.d (.list true 15 l13),.d (.list true 3 l14),.d (.int .i64 z15)]),(.loc 64,.cells [.d (.int .i64 t.2.2)])],480⟩)
   (fun t=>t.1<=m2/\L88_3 t.1 z1 s2 s3 l4 z5 s6 l7 z8 s9 l10 l11 l12 l13 l14 z15 z19 t.2.1 t.2.2=some r1) (fun t=>t.1) (m2,((0:Int),z18)) ⟨Nat.le_refl _,h⟩ (by cbv) ?_
 clear h
 rintro⟨m3,z20,z21⟩ ⟨hm3,h⟩
 replace hm3:m3<=m2:=hm3
 obtain _ | m3:=m3
 ·replace h:L88_3 0 z1 s2 s3 l4 z5 s6 l7 z8 s9 l10 l11 l12 l13 l14 z15 z19 z20 z21=some r1:=h
  rw[L88_3]at h
  cases h
 replace h:L88_3 (m3+1) z1 s2 s3 l4 z5 s6 l7 z8 s9 l10 l11 l12 l13 l14 z15 z19 z20 z21=some r1:=h
 rw[L88_3]at h
 try cbv
 refine seq_joinB 17 [1,2,3,14,15,16,17] [.loc 0,.loc 64] 512 (fun m b=>m<=m3/\L88_4 m z1 s2 s3 l4 z5 s6 l7 z8 s9 l10 l11 l12 l13 l14 z15 z19 z20 z21 b=some r1) ?_ ?_
 ·try cbv
  refine splitL (fun e=>?_) (fun e=>?_)
  ·replace h:=ite_t e h
   clear e
   try cbv
   exact join_next (m3,true) [1,2,3,14,15,16,17] [.loc 0,.loc 64] 512 ⟨by omega,h⟩ (by cbv)
  replace h:=ite_f (Int.not_lt.2 e) h
  clear e
  try cbv
  exact join_next (m3,false) [1,2,3,14,15,16,17] [.loc 0,.loc 64] 512 ⟨by omega,h⟩ (by cbv)
 clear h
 rintro⟨m4,b22⟩ ⟨hm4,h⟩
 try cbv
 replace hm4:m4<=m3:=hm4
 obtain _ | m4:=m4
 ·replace h:L88_4 0 z1 s2 s3 l4 z5 s6 l7 z8 s9 l10 l11 l12 l13 l14 z15 z19 z20 z21 b22=some r1:=h
  rw[L88_4]at h
  cases h
 replace h:L88_4 (m4+1) z1 s2 s3 l4 z5 s6 l7 z8 s9 l10 l11 l12 l13 l14 z15 z19 z20 z21 b22=some r1:=h
 rw[L88_4]at h
 try cbv
 refine seq_go ?_
 try cbv
 cases b22
 ·replace h:=itF h
  try cbv
  refine seq_go ?_
  try cbv
  refine seq_go ?_
  try cbv
  replace h:=bO15_inv h
  obtain⟨z35,s36,s37,l38,z39,s40,l41,z42,s43,l44,l45,l46,l47,l48,z49,hr,h⟩:=h
  refine call_go rfl rfl ?_
  try cbv
  refine call_with hM hI [] (T89 _ hr) rfl (by simp) trivial trivial (by simp) ?_
  clear hr
  try cbv
  replace h:=bO16_inv h
  obtain⟨z50,z51,s52,s53,l54,z55,s56,l57,z58,s59,l60,l61,l62,l63,l64,z65,hr,h⟩:=h
  refine range_with hM hI [.loc 576,.loc 64,.loc 544] [(3,.v (.c (.ptr (.loc 64) 0)))] rfl ⟨rfl,trivial⟩ ((ih _ (by omega)).2.1 hr) rfl (by simp) ⟨rfl,⟨rfl,⟨rfl,trivial⟩⟩⟩ ⟨trivial,⟨trivial,⟨trivial,trivial⟩⟩⟩ (by simp) ?_
  clear hr
  try cbv
  refine seq_go ?_
  try cbv
  replace h:=letF_inv h
  obtain⟨z66,hz,h⟩:=h
  refine⟨z66,hz,?_⟩
  clear hz
  try cbv
  obtain rfl:=Option.some.inj h
  refine fin_go ?_
  try cbv
  exact⟨[],by trivial⟩
 replace h:=itT h
 try cbv
 refine seq_go ?_
 try cbv
 refine seq_go ?_
 try cbv
 replace h:=getF_inv h
 obtain⟨x23,⟨hx0,hx⟩,h⟩:=h
 refine⟨x23,hx0,hx,?_⟩
 clear hx0 hx
 replace h:=ds_t39_inv h
 obtain⟨z24,z25,s26,s27,s28,l29,l30,z31,rfl,h⟩:=h
 try cbv
 replace h:=bO1_inv h
 obtain⟨z32,hr,h⟩:=h
 first | refine .inr (.inl ⟨[],?_⟩) | refine .inl ⟨[],?_⟩
 try cbv
 refine call_pure hM hI (T87 _ hr) rfl ?_
 clear hr
 try cbv
 replace h:=letF_inv h
 obtain⟨z33,hz,h⟩:=h
 refine⟨z33,hz,?_⟩
 clear hz
 try cbv
 refine drawn ?_ ?_
 ·show _=true
  kernel_rfl
 try cbv
 replace h:=letF_inv h
 obtain⟨z34,hz,h⟩:=h
 refine⟨z34,hz,?_⟩
 clear hz
 try cbv
 exact loop_next (m4,(z34,z33)) [1,2,3,14,15,16] [.loc 0,.loc 64] 480 ⟨by omega,h⟩ (Nat.lt_succ_of_le (by omega)) (by cbv)
theorem T88 (n:Nat):∀⦃z1 s2 s3 l4 z5 s6 l7 z8 s9 l10 l11 l12 l13 l14 z15 r1⦄,F88 n z1 s2 s3 l4 z5 s6 l7 z8 s9 l10 l11 l12 l13 l14 z15=some r1->
  Trip Tryz.prog inv 88 [.d (.agg [.int .u8 z1,.str s2,.str s3,.list false 1 l4,.int .u8 z5,.str s6,.list true 3 l7,.int .i64 z8,.str s9,.list false 1 l10,.list true 8 l11,.list true 15 l12,.list true 15 l13,.list true 3 l14,.int .i64 z15])] [] (.v (.d (.int .i64 r1))) [] []:=(G88r0 n).2.2
mutual
def L39_3:Nat->LD->Int->Int->Int->Option (Int)
 | 0,_,_,_,_=>none
 | n+1,l7,z32,z33,z34=>
  (if z34<z32 then L39_4 n l7 z32 z33 z34 true else L39_4 n l7 z32 z33 z34 false)
def L39_4:Nat->LD->Int->Int->Int->Bool->Option (Int)
 | 0,_,_,_,_,_=>none
 | n+1,l7,z32,z33,z34,b35=>
  (if b35=true then getF l7 z34 fun x36=>ds_t50 x36 fun z37 s38 s39 l40 z41 s42 l43 z44 s45 l46 l47 l48 l49 l50 z51=>bO1 (F88 n z37 s38 s39 l40 z41 s42 l43 z44 s45 l46 l47 l48 l49 l50 z51) fun z52=>letF (if z52>z33 then z52 else z33) fun z53=>letF (IntKind.wrap .i64 (z34+1)) fun z54=>L39_3 n l7 z32 z53 z54 else letF (IntKind.wrap .i64 (z33+1)) fun z55=>some z55)
end
mutual
def L39_1:Nat->LD->LD->Int->Int->Int->Option (Int)
 | 0,_,_,_,_,_=>none
 | n+1,l3,l7,z20,z21,z22=>
  (if z22<z20 then L39_2 n l3 l7 z20 z21 z22 true else L39_2 n l3 l7 z20 z21 z22 false)
def L39_2:Nat->LD->LD->Int->Int->Int->Bool->Option (Int)
 | 0,_,_,_,_,_,_=>none
 | n+1,l3,l7,z20,z21,z22,b23=>
  (if b23=true then getF l3 z22 fun x24=>ds_t74 x24 fun s25 z26 s27 l28=>bO1 (F86 n z26 s27 l28) fun z29=>letF (if z29>z21 then z29 else z21) fun z30=>letF (IntKind.wrap .i64 (z22+1)) fun z31=>L39_1 n l3 l7 z20 z30 z31 else lenF l7 fun z32=>L39_3 n l7 z32 z21 (0:Int))
end
def F39 (n:Nat) (z1:Int) (s2:BA) (l3:LD) (z4:Int) (s5:BA) (l6:LD) (l7:LD) (z8:Int) (z9:Int) (s10:BA) (s11:BA) (s12:BA) (l13:LD) (l14:LD) (z15:Int) (z16:Int):Option (Int):=
 bO1 (F86 n z4 s5 l6) fun z17=>bO1 (F87 n z8 z9 s10 s11 s12 l13 l14 z15) fun z18=>letF (if z18>z17 then z18 else z17) fun z19=>lenF l3 fun z20=>L39_1 n l3 l7 z20 z19 (0:Int)
theorem T39 (n:Nat):∀⦃z1 s2 l3 z4 s5 l6 l7 z8 z9 s10 s11 s12 l13 l14 z15 z16 r1⦄,F39 n z1 s2 l3 z4 s5 l6 l7 z8 z9 s10 s11 s12 l13 l14 z15 z16=some r1->
    Trip Tryz.prog inv 39 [.d (.agg [.int .u8 z1,.str s2,.list true 4 l3,.int .u8 z4,.str s5,.list true 3 l6,.list true 15 l7,.int .u8 z8,.int .i64 z9,.str s10,.str s11,.str s12,.list false 1 l13,.list true 8 l14,.int .i64 z15,.int .i64 z16])] [] (.v (.d (.int .i64 r1))) [] []:=by
 intro z1 s2 l3 z4 s5 l6 l7 z8 z9 s10 s11 s12 l13 l14 z15 z16 r1 h
 unfold F39 at h
 refine Trip.of tab_ok tab_one fol Tryz.func39 rfl (by kernel_rfl) rfl rfl rfl (fun M hM hI=>?_)
 try cbv
 refine seq_go ?_
 try cbv
 refine seq_go ?_
 try cbv
 replace h:=bO1_inv h
 obtain⟨z17,hr,h⟩:=h
 first | refine .inr (.inl ⟨[],?_⟩) | refine .inl ⟨[],?_⟩
 try cbv
 refine call_pure hM hI (T86 _ hr) rfl ?_
 clear hr
 try cbv
 replace h:=bO1_inv h
 obtain⟨z18,hr,h⟩:=h
 first | refine .inr (.inl ⟨[],?_⟩) | refine .inl ⟨[],?_⟩
 try cbv
 refine call_pure hM hI (T87 _ hr) rfl ?_
 clear hr
 try cbv
 replace h:=letF_inv h
 obtain⟨z19,hz,h⟩:=h
 refine⟨z19,hz,?_⟩
 clear hz
 try cbv
 refine drawn ?_ ?_
 ·show _=true
  kernel_rfl
 try cbv
 refine seq_go ?_
 try cbv
 refine seq_go ?_
 try cbv
 replace h:=lenF_inv M h
 obtain⟨z20,hz,h⟩:=h
 refine⟨z20,hz,?_⟩
 clear hz
 try cbv
 refine loop_inv (T:=Nat×Int×Int) [1,2,3,16,17,18] [.loc 0] 448 (fun t=>⟨[sL 1 0,sI 2 0,sI 3 t.2.1,sT 16 4 l3,sI 17 z20,sI 18 t.2.2],[(.loc 0,.cells [.d (.int .u8 z1),.d (.str s2),.d (.list true 4 l3),.d (.int .u8 z4),.d (.str s5),.d (.list true 3 l6),.d (.list true 15 l7),.d (.int .u8 z8),.d (.int .i64 z9),.d (.str s10),.d (.str s11),.d (.str s12),.d (.list false 1 l13),.d (.list true 8 l14),.d (.int .i64 z15),.d (.int .i64 z16)])],448⟩)
   (fun t=>t.1<=n/\L39_1 t.1 l3 l7 z20 t.2.1 t.2.2=some r1) (fun t=>t.1) (n,(z19,(0:Int))) ⟨Nat.le_refl _,h⟩ (by cbv) ?_
 clear h
 rintro⟨m1,z21,z22⟩ ⟨hm1,h⟩
 replace hm1:m1<=n:=hm1
 obtain _ | m1:=m1
 ·replace h:L39_1 0 l3 l7 z20 z21 z22=some r1:=h
  rw[L39_1]at h
  cases h
 replace h:L39_1 (m1+1) l3 l7 z20 z21 z22=some r1:=h
 rw[L39_1]at h
 try cbv
 refine seq_joinB 19 [1,2,3,16,17,18,19] [.loc 0] 480 (fun m b=>m<=m1/\L39_2 m l3 l7 z20 z21 z22 b=some r1) ?_ ?_
 ·try cbv
  refine splitL (fun e=>?_) (fun e=>?_)
  ·replace h:=ite_t e h
   clear e
   try cbv
   exact join_next (m1,true) [1,2,3,16,17,18,19] [.loc 0] 480 ⟨by omega,h⟩ (by cbv)
  replace h:=ite_f (Int.not_lt.2 e) h
  clear e
  try cbv
  exact join_next (m1,false) [1,2,3,16,17,18,19] [.loc 0] 480 ⟨by omega,h⟩ (by cbv)
 clear h
 rintro⟨m2,b23⟩ ⟨hm2,h⟩
 try cbv
 replace hm2:m2<=m1:=hm2
 obtain _ | m2:=m2
 ·replace h:L39_2 0 l3 l7 z20 z21 z22 b23=some r1:=h
  rw[L39_2]at h
  cases h
 replace h:L39_2 (m2+1) l3 l7 z20 z21 z22 b23=some r1:=h
 rw[L39_2]at h
 try cbv
 refine seq_go ?_
 try cbv
 cases b23
 rotate_left
 ·replace h:=itT h
  try cbv
  refine seq_go ?_
  try cbv
  refine seq_go ?_
  try cbv
  replace h:=getF_inv h
  obtain⟨x24,⟨hx0,hx⟩,h⟩:=h
  refine⟨x24,hx0,hx,?_⟩
  clear hx0 hx
  replace h:=ds_t74_inv h
  obtain⟨s25,z26,s27,l28,rfl,h⟩:=h
  try cbv
  replace h:=bO1_inv h
  obtain⟨z29,hr,h⟩:=h
  refine call_go rfl rfl ?_
  try cbv
  refine call_pure hM hI (T86 _ hr) rfl ?_
  clear hr
  try cbv
  replace h:=letF_inv h
  obtain⟨z30,hz,h⟩:=h
  refine⟨z30,hz,?_⟩
  clear hz
  try cbv
  replace h:=letF_inv h
  obtain⟨z31,hz,h⟩:=h
  refine⟨z31,hz,?_⟩
  clear hz
  try cbv
  exact loop_next (m2,(z30,z31)) [1,2,3,16,17,18] [.loc 0] 448 ⟨by omega,h⟩ (Nat.lt_succ_of_le (by omega)) (by cbv)
 replace h:=itF h
 try cbv
 refine seq_go ?_
 try cbv
 refine seq_go ?_
 try cbv
 replace h:=lenF_inv M h
 obtain⟨z32,hz,h⟩:=h
 refine⟨z32,hz,?_⟩
 clear hz
 try cbv
 refine loop_inv (T:=Nat×Int×Int) [2,3,29,30,31] [] 608 (fun t=>⟨[sI 2 0,sI 3 t.2.1,sT 29 15 l7,sI 30 z32,sI 31 t.2.2],[],608⟩)
   (fun t=>t.1<=m2/\L39_3 t.1 l7 z32 t.2.1 t.2.2=some r1) (fun t=>t.1) (m2,(z21,(0:Int))) ⟨Nat.le_refl _,h⟩ (by cbv) ?_
 clear h
 rintro⟨m3,z33,z34⟩ ⟨hm3,h⟩
 replace hm3:m3<=m2:=hm3
 obtain _ | m3:=m3
 ·replace h:L39_3 0 l7 z32 z33 z34=some r1:=h
  rw[L39_3]at h
  cases h
 replace h:L39_3 (m3+1) l7 z32 z33 z34=some r1:=h
 rw[L39_3]at h
 try cbv
 refine seq_joinB 32 [2,3,29,30,31,32] [] 640 (fun m b=>m<=m3/\L39_4 m l7 z32 z33 z34 b=some r1) ?_ ?_
 ·try cbv
  refine splitL (fun e=>?_) (fun e=>?_)
  ·replace h:=ite_t e h
   clear e
   try cbv
   exact join_next (m3,true) [2,3,29,30,31,32] [] 640 ⟨by omega,h⟩ (by cbv)
  replace h:=ite_f (Int.not_lt.2 e) h
  clear e
  try cbv
  exact join_next (m3,false) [2,3,29,30,31,32] [] 640 ⟨by omega,h⟩ (by cbv)
 clear h
 rintro⟨m4,b35⟩ ⟨hm4,h⟩
 try cbv
 replace hm4:m4<=m3:=hm4
 obtain _ | m4:=m4
 ·replace h:L39_4 0 l7 z32 z33 z34 b35=some r1:=h
  rw[L39_4]at h
  cases h
 replace h:L39_4 (m4+1) l7 z32 z33 z34 b35=some r1:=h
 rw[L39_4]at h
 try cbv
 refine seq_go ?_
 try cbv
 cases b35
 ·replace h:=itF h
  try cbv
  refine seq_go ?_
  try cbv
  replace h:=letF_inv h
  obtain⟨z55,hz,h⟩:=h
  refine⟨z55,hz,?_⟩
  clear hz
  try cbv
  obtain rfl:=Option.some.inj h
  refine fin_go ?_
  try cbv
  exact⟨[],by trivial⟩
 replace h:=itT h
 try cbv
 refine seq_go ?_
 try cbv
 refine seq_go ?_
 try cbv
 replace h:=getF_inv h
 obtain⟨x36,⟨hx0,hx⟩,h⟩:=h
 refine⟨x36,hx0,hx,?_⟩
 clear hx0 hx
 replace h:=ds_t50_inv h
 obtain⟨z37,s38,s39,l40,z41,s42,l43,z44,s45,l46,l47,l48,l49,l50,z51,rfl,h⟩:=h
 try cbv
 replace h:=bO1_inv h
 obtain⟨z52,hr,h⟩:=h
 refine call_go rfl rfl ?_
 try cbv
 refine call_pure hM hI (T88 _ hr) rfl ?_
 clear hr
 try cbv
 replace h:=letF_inv h
 obtain⟨z53,hz,h⟩:=h
 refine⟨z53,hz,?_⟩
 clear hz
 try cbv
 replace h:=letF_inv h
 obtain⟨z54,hz,h⟩:=h
 refine⟨z54,hz,?_⟩
 clear hz
 try cbv
 exact loop_next (m4,(z53,z54)) [2,3,29,30,31] [] 608 ⟨by omega,h⟩ (Nat.lt_succ_of_le (by omega)) (by cbv)
mutual
def L12_1:Nat->LD->Int->Int->Int->Option (Int)
 | 0,_,_,_,_=>none
 | n+1,l1,z2,z3,z4=>
  (if z4<z2 then L12_2 n l1 z2 z3 z4 true else L12_2 n l1 z2 z3 z4 false)
def L12_2:Nat->LD->Int->Int->Int->Bool->Option (Int)
 | 0,_,_,_,_,_=>none
 | n+1,l1,z2,z3,z4,b5=>
  (if b5=true then getF l1 z4 fun x6=>ds_t45 x6 fun z7 s8 l9 z10 s11 l12 l13 z14 z15 s16 s17 s18 l19 l20 z21 z22=>bO1 (F39 n z7 s8 l9 z10 s11 l12 l13 z14 z15 s16 s17 s18 l19 l20 z21 z22) fun z23=>letF (if z23>z3 then z23 else z3) fun z24=>letF (IntKind.wrap .i64 (z4+1)) fun z25=>L12_1 n l1 z2 z24 z25 else letF (IntKind.wrap .i64 (z3+1)) fun z26=>some z26)
end
def F12 (n:Nat) (l1:LD):Option (Int):=
 lenF l1 fun z2=>L12_1 n l1 z2 (0:Int) (0:Int)
theorem T12 (n:Nat):∀⦃l1 r1⦄,F12 n l1=some r1->
    Trip Tryz.prog inv 12 [.d (.agg [.list true 16 l1])] [] (.v (.d (.int .i64 r1))) [] []:=by
 intro l1 r1 h
 unfold F12 at h
 refine Trip.of tab_ok tab_one fol Tryz.func12 rfl (by kernel_rfl) rfl rfl rfl (fun M hM hI=>?_)
 try cbv
 refine seq_go ?_
 try cbv
 refine seq_go ?_
 try cbv
 refine seq_go ?_
 try cbv
 refine seq_go ?_
 try cbv
 replace h:=lenF_inv M h
 obtain⟨z2,hz,h⟩:=h
 refine⟨z2,hz,?_⟩
 clear hz
 try cbv
 refine loop_inv (T:=Nat×Int×Int) [2,3,7,8,9] [] 224 (fun t=>⟨[sI 2 0,sI 3 t.2.1,sT 7 16 l1,sI 8 z2,sI 9 t.2.2],[],224⟩)
   (fun t=>t.1<=n/\L12_1 t.1 l1 z2 t.2.1 t.2.2=some r1) (fun t=>t.1) (n,((0:Int),(0:Int))) ⟨Nat.le_refl _,h⟩ (by cbv) ?_
 clear h
 rintro⟨m1,z3,z4⟩ ⟨hm1,h⟩
 replace hm1:m1<=n:=hm1
 obtain _ | m1:=m1
 ·replace h:L12_1 0 l1 z2 z3 z4=some r1:=h
  rw[L12_1]at h
  cases h
 replace h:L12_1 (m1+1) l1 z2 z3 z4=some r1:=h
 rw[L12_1]at h
 try cbv
 refine seq_joinB 10 [2,3,7,8,9,10] [] 256 (fun m b=>m<=m1/\L12_2 m l1 z2 z3 z4 b=some r1) ?_ ?_
 ·try cbv
  refine splitL (fun e=>?_) (fun e=>?_)
  ·replace h:=ite_t e h
   clear e
   try cbv
   exact join_next (m1,true) [2,3,7,8,9,10] [] 256 ⟨by omega,h⟩ (by cbv)
  replace h:=ite_f (Int.not_lt.2 e) h
  clear e
  try cbv
  exact join_next (m1,false) [2,3,7,8,9,10] [] 256 ⟨by omega,h⟩ (by cbv)
 clear h
 rintro⟨m2,b5⟩ ⟨hm2,h⟩
 try cbv
 replace hm2:m2<=m1:=hm2
 obtain _ | m2:=m2
 ·replace h:L12_2 0 l1 z2 z3 z4 b5=some r1:=h
  rw[L12_2]at h
  cases h
 replace h:L12_2 (m2+1) l1 z2 z3 z4 b5=some r1:=h
 rw[L12_2]at h
 try cbv
 refine seq_go ?_
 try cbv
 cases b5
 ·replace h:=itF h
  try cbv
  refine seq_go ?_
  try cbv
  replace h:=letF_inv h
  obtain⟨z26,hz,h⟩:=h
  refine⟨z26,hz,?_⟩
  clear hz
  try cbv
  obtain rfl:=Option.some.inj h
  refine fin_go ?_
  try cbv
  exact⟨[],by trivial⟩
 replace h:=itT h
 try cbv
 refine seq_go ?_
 try cbv
 refine seq_go ?_
 try cbv
 replace h:=getF_inv h
 obtain⟨x6,⟨hx0,hx⟩,h⟩:=h
 refine⟨x6,hx0,hx,?_⟩
 clear hx0 hx
 replace h:=ds_t45_inv h
 obtain⟨z7,s8,l9,z10,s11,l12,l13,z14,z15,s16,s17,s18,l19,l20,z21,z22,rfl,h⟩:=h
 try cbv
 replace h:=bO1_inv h
 obtain⟨z23,hr,h⟩:=h
 refine call_go rfl rfl ?_
 try cbv
 refine call_pure hM hI (T39 _ hr) rfl ?_
 clear hr
 try cbv
 replace h:=letF_inv h
 obtain⟨z24,hz,h⟩:=h
 refine⟨z24,hz,?_⟩
 clear hz
 try cbv
 replace h:=letF_inv h
 obtain⟨z25,hz,h⟩:=h
 refine⟨z25,hz,?_⟩
 clear hz
 try cbv
 exact loop_next (m2,(z24,z25)) [2,3,7,8,9] [] 224 ⟨by omega,h⟩ (Nat.lt_succ_of_le (by omega)) (by cbv)
mutual
def L44_1:Nat->LD->Int->Int->Int->Option (Int)
 | 0,_,_,_,_=>none
 | n+1,l7,z9,z10,z11=>
  (if z11<z9 then L44_2 n l7 z9 z10 z11 true else L44_2 n l7 z9 z10 z11 false)
def L44_2:Nat->LD->Int->Int->Int->Bool->Option (Int)
 | 0,_,_,_,_,_=>none
 | n+1,l7,z9,z10,z11,b12=>
  (if b12=true then getF l7 z11 fun x13=>ds_t39 x13 fun z14 z15 s16 s17 s18 l19 l20 z21=>bO1 (F44 n z14 z15 s16 s17 s18 l19 l20 z21) fun z22=>letF (IntKind.wrap .i64 (z10+z22)) fun z23=>letF (IntKind.wrap .i64 (z11+1)) fun z24=>L44_1 n l7 z9 z23 z24 else some z10)
def F44:Nat->Int->Int->BA->BA->BA->LD->LD->Int->Option (Int)
 | 0,_,_,_,_,_,_,_,_=>none
 | n+1,z1,z2,s3,s4,s5,l6,l7,z8=>
  lenF l7 fun z9=>L44_1 n l7 z9 (1:Int) (0:Int)
end
theorem T44 (n:Nat):∀⦃z1 z2 s3 s4 s5 l6 l7 z8 r1⦄,F44 n z1 z2 s3 s4 s5 l6 l7 z8=some r1->
    Trip Tryz.prog inv 44 [.d (.agg [.int .u8 z1,.int .i64 z2,.str s3,.str s4,.str s5,.list false 1 l6,.list true 8 l7,.int .i64 z8])] [] (.v (.d (.int .i64 r1))) [] []:=by
 induction n using Nat.strongRecOn with | _ n ih=>
 obtain _ | n:=n
 ·intro z1 z2 s3 s4 s5 l6 l7 z8 r1 h
  cases (show (none:Option _)=some _ from h)
 intro z1 z2 s3 s4 s5 l6 l7 z8 r1 h
 rw[F44]at h
 refine Trip.of tab_ok tab_one fol Tryz.func44 rfl (by kernel_rfl) rfl rfl rfl (fun M hM hI=>?_)
 try cbv
 refine seq_go ?_
 try cbv
 refine seq_go ?_
 try cbv
 refine seq_go ?_
 try cbv
 refine seq_go ?_
 try cbv
 replace h:=lenF_inv M h
 obtain⟨z9,hz,h⟩:=h
 refine⟨z9,hz,?_⟩
 clear hz
 try cbv
 refine loop_inv (T:=Nat×Int×Int) [2,3,7,8,9] [] 224 (fun t=>⟨[sI 2 0,sI 3 t.2.1,sT 7 8 l7,sI 8 z9,sI 9 t.2.2],[],224⟩)
   (fun t=>t.1<=n/\L44_1 t.1 l7 z9 t.2.1 t.2.2=some r1) (fun t=>t.1) (n,((1:Int),(0:Int))) ⟨Nat.le_refl _,h⟩ (by cbv) ?_
 clear h
 rintro⟨m1,z10,z11⟩ ⟨hm1,h⟩
 replace hm1:m1<=n:=hm1
 obtain _ | m1:=m1
 ·replace h:L44_1 0 l7 z9 z10 z11=some r1:=h
  rw[L44_1]at h
  cases h
 replace h:L44_1 (m1+1) l7 z9 z10 z11=some r1:=h
 rw[L44_1]at h
 try cbv
 refine seq_joinB 10 [2,3,7,8,9,10] [] 256 (fun m b=>m<=m1/\L44_2 m l7 z9 z10 z11 b=some r1) ?_ ?_
 ·try cbv
  refine splitL (fun e=>?_) (fun e=>?_)
  ·replace h:=ite_t e h
   clear e
   try cbv
   exact join_next (m1,true) [2,3,7,8,9,10] [] 256 ⟨by omega,h⟩ (by cbv)
  replace h:=ite_f (Int.not_lt.2 e) h
  clear e
  try cbv
  exact join_next (m1,false) [2,3,7,8,9,10] [] 256 ⟨by omega,h⟩ (by cbv)
 clear h
 rintro⟨m2,b12⟩ ⟨hm2,h⟩
 try cbv
 replace hm2:m2<=m1:=hm2
 obtain _ | m2:=m2
 ·replace h:L44_2 0 l7 z9 z10 z11 b12=some r1:=h
  rw[L44_2]at h
  cases h
 replace h:L44_2 (m2+1) l7 z9 z10 z11 b12=some r1:=h
 rw[L44_2]at h
 try cbv
 refine seq_go ?_
 try cbv
 cases b12
 ·replace h:=itF h
  try cbv
  refine seq_go ?_
  try cbv
  obtain rfl:=Option.some.inj h
  refine fin_go ?_
  try cbv
  exact⟨[],by trivial⟩
 replace h:=itT h
 try cbv
 refine seq_go ?_
 try cbv
 refine seq_go ?_
 try cbv
 replace h:=getF_inv h
 obtain⟨x13,⟨hx0,hx⟩,h⟩:=h
 refine⟨x13,hx0,hx,?_⟩
 clear hx0 hx
 replace h:=ds_t39_inv h
 obtain⟨z14,z15,s16,s17,s18,l19,l20,z21,rfl,h⟩:=h
 try cbv
 replace h:=bO1_inv h
 obtain⟨z22,hr,h⟩:=h
 refine call_go rfl rfl ?_
 try cbv
 refine call_pure hM hI ((ih _ (by omega)) hr) rfl ?_
 clear hr
 try cbv
 replace h:=letF_inv h
 obtain⟨z23,hz,h⟩:=h
 refine⟨z23,hz,?_⟩
 clear hz
 try cbv
 replace h:=letF_inv h
 obtain⟨z24,hz,h⟩:=h
 refine⟨z24,hz,?_⟩
 clear hz
 try cbv
 exact loop_next (m2,(z23,z24)) [2,3,7,8,9] [] 224 ⟨by omega,h⟩ (Nat.lt_succ_of_le (by omega)) (by cbv)
mutual
def F45r0:Nat->Int->BA->BA->LD->Int->BA->LD->Int->BA->LD->LD->LD->LD->LD->Int->Int->Option (Int)
 | 0,_,_,_,_,_,_,_,_,_,_,_,_,_,_,_,_=>none
 | n+1,z1,s2,s3,l4,z5,s6,l7,z8,s9,l10,l11,l12,l13,l14,z15,z16=>
  bO1 (F45 n z1 s2 s3 l4 z5 s6 l7 z8 s9 l10 l11 l12 l13 l14 z15) fun z17=>letF (IntKind.wrap .i64 (z16+z17)) fun z18=>some z18
def L138x1_1:Nat->Int->BA->BA->LD->Int->BA->LD->Int->BA->LD->LD->LD->LD->LD->Int->Int->Int->Option (Int×Int×BA×BA×LD×Int×BA×LD×Int×BA×LD×LD×LD×LD×LD×Int)
 | 0,_,_,_,_,_,_,_,_,_,_,_,_,_,_,_,_,_=>none
 | n+1,z2,s3,s4,l5,z6,s7,l8,z9,s10,l11,l12,l13,l14,l15,z16,z17,z18=>
  (if z17<(2:Int)then L138x1_2 n z2 s3 s4 l5 z6 s7 l8 z9 s10 l11 l12 l13 l14 l15 z16 z17 z18 true else L138x1_2 n z2 s3 s4 l5 z6 s7 l8 z9 s10 l11 l12 l13 l14 l15 z16 z17 z18 false)
def L138x1_2:Nat->Int->BA->BA->LD->Int->BA->LD->Int->BA->LD->LD->LD->LD->LD->Int->Int->Int->Bool->Option (Int×Int×BA×BA×LD×Int×BA×LD×Int×BA×LD×LD×LD×LD×LD×Int)
 | 0,_,_,_,_,_,_,_,_,_,_,_,_,_,_,_,_,_,_=>none
 | n+1,z2,s3,s4,l5,z6,s7,l8,z9,s10,l11,l12,l13,l14,l15,z16,z17,z18,b19=>
  (if b19=true then getF ([.list true 15 l13,.list true 15 l14]) z17 fun x20=>ds_listtrue15 x20 fun l21=>lenF l21 fun z22=>L138x1_3 n z2 s3 s4 l5 z6 s7 l8 z9 s10 l11 l12 l13 l14 l15 z16 z17 l21 z22 (0:Int) z18 else lenF l15 fun z45=>L138x1_5 n z2 s3 s4 l5 z6 s7 l8 z9 s10 l11 l12 l13 l14 l15 z16 z45 (0:Int) z18)
def L138x1_3:Nat->Int->BA->BA->LD->Int->BA->LD->Int->BA->LD->LD->LD->LD->LD->Int->Int->LD->Int->Int->Int->Option (Int×Int×BA×BA×LD×Int×BA×LD×Int×BA×LD×LD×LD×LD×LD×Int)
 | 0,_,_,_,_,_,_,_,_,_,_,_,_,_,_,_,_,_,_,_,_=>none
 | n+1,z2,s3,s4,l5,z6,s7,l8,z9,s10,l11,l12,l13,l14,l15,z16,z17,l21,z22,z23,z24=>
  (if z23<z22 then L138x1_4 n z2 s3 s4 l5 z6 s7 l8 z9 s10 l11 l12 l13 l14 l15 z16 z17 l21 z22 z23 z24 true else L138x1_4 n z2 s3 s4 l5 z6 s7 l8 z9 s10 l11 l12 l13 l14 l15 z16 z17 l21 z22 z23 z24 false)
def L138x1_4:Nat->Int->BA->BA->LD->Int->BA->LD->Int->BA->LD->LD->LD->LD->LD->Int->Int->LD->Int->Int->Int->Bool->Option (Int×Int×BA×BA×LD×Int×BA×LD×Int×BA×LD×LD×LD×LD×LD×Int)
 | 0,_,_,_,_,_,_,_,_,_,_,_,_,_,_,_,_,_,_,_,_,_=>none
 | n+1,z2,s3,s4,l5,z6,s7,l8,z9,s10,l11,l12,l13,l14,l15,z16,z17,l21,z22,z23,z24,b25=>
  (if b25=true then getF l21 z23 fun x26=>ds_t50 x26 fun z27 s28 s29 l30 z31 s32 l33 z34 s35 l36 l37 l38 l39 l40 z41=>bO1 (F45r0 n z27 s28 s29 l30 z31 s32 l33 z34 s35 l36 l37 l38 l39 l40 z41 z24) fun z42=>letF (IntKind.wrap .i64 (z23+1)) fun z43=>L138x1_3 n z2 s3 s4 l5 z6 s7 l8 z9 s10 l11 l12 l13 l14 l15 z16 z17 l21 z22 z43 z42 else letF (IntKind.wrap .i64 (z17+1)) fun z44=>L138x1_1 n z2 s3 s4 l5 z6 s7 l8 z9 s10 l11 l12 l13 l14 l15 z16 z44 z24)
def L138x1_5:Nat->Int->BA->BA->LD->Int->BA->LD->Int->BA->LD->LD->LD->LD->LD->Int->Int->Int->Int->Option (Int×Int×BA×BA×LD×Int×BA×LD×Int×BA×LD×LD×LD×LD×LD×Int)
 | 0,_,_,_,_,_,_,_,_,_,_,_,_,_,_,_,_,_,_=>none
 | n+1,z2,s3,s4,l5,z6,s7,l8,z9,s10,l11,l12,l13,l14,l15,z16,z45,z46,z47=>
  (if z46<z45 then L138x1_6 n z2 s3 s4 l5 z6 s7 l8 z9 s10 l11 l12 l13 l14 l15 z16 z45 z46 z47 true else L138x1_6 n z2 s3 s4 l5 z6 s7 l8 z9 s10 l11 l12 l13 l14 l15 z16 z45 z46 z47 false)
def L138x1_6:Nat->Int->BA->BA->LD->Int->BA->LD->Int->BA->LD->LD->LD->LD->LD->Int->Int->Int->Int->Bool->Option (Int×Int×BA×BA×LD×Int×BA×LD×Int×BA×LD×LD×LD×LD×LD×Int)
 | 0,_,_,_,_,_,_,_,_,_,_,_,_,_,_,_,_,_,_,_=>none
 | n+1,z2,s3,s4,l5,z6,s7,l8,z9,s10,l11,l12,l13,l14,l15,z16,z45,z46,z47,b48=>
  (if b48=true then getF l15 z46 fun x49=>ds_t95 x49 fun s50 s51 l52=>lenF l52 fun z53=>L138x1_7 n z2 s3 s4 l5 z6 s7 l8 z9 s10 l11 l12 l13 l14 l15 z16 z45 z46 l52 z53 (0:Int) z47 else some (z47,z2,s3,s4,l5,z6,s7,l8,z9,s10,l11,l12,l13,l14,l15,z16))
def L138x1_7:Nat->Int->BA->BA->LD->Int->BA->LD->Int->BA->LD->LD->LD->LD->LD->Int->Int->Int->LD->Int->Int->Int->Option (Int×Int×BA×BA×LD×Int×BA×LD×Int×BA×LD×LD×LD×LD×LD×Int)
 | 0,_,_,_,_,_,_,_,_,_,_,_,_,_,_,_,_,_,_,_,_,_=>none
 | n+1,z2,s3,s4,l5,z6,s7,l8,z9,s10,l11,l12,l13,l14,l15,z16,z45,z46,l52,z53,z54,z55=>
  (if z54<z53 then L138x1_8 n z2 s3 s4 l5 z6 s7 l8 z9 s10 l11 l12 l13 l14 l15 z16 z45 z46 l52 z53 z54 z55 true else L138x1_8 n z2 s3 s4 l5 z6 s7 l8 z9 s10 l11 l12 l13 l14 l15 z16 z45 z46 l52 z53 z54 z55 false)
def L138x1_8:Nat->Int->BA->BA->LD->Int->BA->LD->Int->BA->LD->LD->LD->LD->LD->Int->Int->Int->LD->Int->Int->Int->Bool->Option (Int×Int×BA×BA×LD×Int×BA×LD×Int×BA×LD×LD×LD×LD×LD×Int)
 | 0,_,_,_,_,_,_,_,_,_,_,_,_,_,_,_,_,_,_,_,_,_,_=>none
 | n+1,z2,s3,s4,l5,z6,s7,l8,z9,s10,l11,l12,l13,l14,l15,z16,z45,z46,l52,z53,z54,z55,b56=>
  (if b56=true then getF l52 z54 fun x57=>ds_t50 x57 fun z58 s59 s60 l61 z62 s63 l64 z65 s66 l67 l68 l69 l70 l71 z72=>bO1 (F45r0 n z58 s59 s60 l61 z62 s63 l64 z65 s66 l67 l68 l69 l70 l71 z72 z55) fun z73=>letF (IntKind.wrap .i64 (z54+1)) fun z74=>L138x1_7 n z2 s3 s4 l5 z6 s7 l8 z9 s10 l11 l12 l13 l14 l15 z16 z45 z46 l52 z53 z74 z73 else letF (IntKind.wrap .i64 (z46+1)) fun z75=>L138x1_5 n z2 s3 s4 l5 z6 s7 l8 z9 s10 l11 l12 l13 l14 l15 z16 z45 z75 z55)
def F138x1:Nat->Int->Int->BA->BA->LD->Int->BA->LD->Int->BA->LD->LD->LD->LD->LD->Int->Option (Int×Int×BA×BA×LD×Int×BA×LD×Int×BA×LD×LD×LD×LD×LD×Int)
 | 0,_,_,_,_,_,_,_,_,_,_,_,_,_,_,_,_=>none
 | n+1,z1,z2,s3,s4,l5,z6,s7,l8,z9,s10,l11,l12,l13,l14,l15,z16=>
  L138x1_1 n z2 s3 s4 l5 z6 s7 l8 z9 s10 l11 l12 l13 l14 l15 z16 (0:Int) z1
def L45_1:Nat->Int->BA->BA->LD->Int->BA->LD->Int->BA->LD->LD->LD->LD->LD->Int->Int->Int->Int->Option (Int)
 | 0,_,_,_,_,_,_,_,_,_,_,_,_,_,_,_,_,_,_=>none
 | n+1,z1,s2,s3,l4,z5,s6,l7,z8,s9,l10,l11,l12,l13,l14,z15,z16,z17,z18=>
  (if z17<z16 then L45_2 n z1 s2 s3 l4 z5 s6 l7 z8 s9 l10 l11 l12 l13 l14 z15 z16 z17 z18 true else L45_2 n z1 s2 s3 l4 z5 s6 l7 z8 s9 l10 l11 l12 l13 l14 z15 z16 z17 z18 false)
def L45_2:Nat->Int->BA->BA->LD->Int->BA->LD->Int->BA->LD->LD->LD->LD->LD->Int->Int->Int->Int->Bool->Option (Int)
 | 0,_,_,_,_,_,_,_,_,_,_,_,_,_,_,_,_,_,_,_=>none
 | n+1,z1,s2,s3,l4,z5,s6,l7,z8,s9,l10,l11,l12,l13,l14,z15,z16,z17,z18,b19=>
  (if b19=true then getF l11 z17 fun x20=>ds_t39 x20 fun z21 z22 s23 s24 s25 l26 l27 z28=>bO1 (F44 n z21 z22 s23 s24 s25 l26 l27 z28) fun z29=>letF (IntKind.wrap .i64 (z18+z29)) fun z30=>letF (IntKind.wrap .i64 (z17+1)) fun z31=>L45_1 n z1 s2 s3 l4 z5 s6 l7 z8 s9 l10 l11 l12 l13 l14 z15 z16 z31 z30 else bO15 (F89 n z1 s2 s3 l4 z5 s6 l7 z8 s9 l10 l11 l12 l13 l14 z15) fun z32 s33 s34 l35 z36 s37 l38 z39 s40 l41 l42 l43 l44 l45 z46=>bO16 (F138x1 n z18 z32 s33 s34 l35 z36 s37 l38 z39 s40 l41 l42 l43 l44 l45 z46) fun z47 z48 s49 s50 l51 z52 s53 l54 z55 s56 l57 l58 l59 l60 l61 z62=>some z47)
def F45:Nat->Int->BA->BA->LD->Int->BA->LD->Int->BA->LD->LD->LD->LD->LD->Int->Option (Int)
 | 0,_,_,_,_,_,_,_,_,_,_,_,_,_,_,_=>none
 | n+1,z1,s2,s3,l4,z5,s6,l7,z8,s9,l10,l11,l12,l13,l14,z15=>
  lenF l11 fun z16=>L45_1 n z1 s2 s3 l4 z5 s6 l7 z8 s9 l10 l11 l12 l13 l14 z15 z16 (0:Int) (1:Int)
end
theorem G45r0 (n:Nat):(∀⦃z1 s2 s3 l4 z5 s6 l7 z8 s9 l10 l11 l12 l13 l14 z15 z16 r1⦄,F45r0 n z1 s2 s3 l4 z5 s6 l7 z8 s9 l10 l11 l12 l13 l14 z15 z16=some r1->
    RoundK Tryz.prog inv (rf45_0 ()) [(3,.v (.c (.ptr (.ext 0) 0)))] [.d (.agg [.int .u8 z1,.str s2,.str s3,.list false 1 l4,.int .u8 z5,.str s6,.list true 3 l7,.int .i64 z8,.str s9,.list false 1 l10,.list true 8 l11,.list true 15 l12,.list true 15 l13,.list true 3 l14,.int .i64 z15])] [.cells [.d (.int .i64 z16)]] fun j p n=>j=none/\p=[.cells [.d (.int .i64 r1)]]/\n=[])/\
    (∀⦃z1 z2 s3 s4 l5 z6 s7 l8 z9 s10 l11 l12 l13 l14 l15 z16 r1 r2 r3 r4 r5 r6 r7 r8 r9 r10 r11 r12 r13 r14 r15 r16⦄,F138x1 n z1 z2 s3 s4 l5 z6 s7 l8 z9 s10 l11 l12 l13 l14 l15 z16=some (r1,r2,r3,r4,r5,r6,r7,r8,r9,r10,r11,r12,r13,r14,r15,r16)->
    Trip Tryz.prog inv 138 [.c (.yl (.ext 0)),.c (.ptr (.ext 2) 0)] [.rnd rf45_0 [(3,.v (.c (.ptr (.ext 1) 0)))],.cells [.d (.int .i64 z1)],.cells [.d (.int .u8 z2),.d (.str s3),.d (.str s4),.d (.list false 1 l5),.d (.int .u8 z6),.d (.str s7),.d (.list true 3 l8),.d (.int .i64 z9),.d (.str s10),.d (.list false 1 l11),.d (.list true 8 l12),.d (.list true 15 l13),.d (.list true 15 l14),.d (.list true 3 l15),.d (.int .i64 z16)]] (.t []) [.rnd rf45_0 [(3,.v (.c (.ptr (.ext 1) 0)))],.cells [.d (.int .i64 r1)],.cells [.d (.int .u8 r2),.d (.str r3),.d (.str r4),.d (.list false 1 r5),.d (.int .u8 r6),.d (.str r7),.d (.list true 3 r8),.d (.int .i64 r9),.d (.str r10),.d (.list false 1 r11),.d (.list true 8 r12),.d (.list true 15 r13),.d (.list true 15 r14),.d (.list true 3 r15),.d (.int .i64 r16)]] [])/\
    (∀⦃z1 s2 s3 l4 z5 s6 l7 z8 s9 l10 l11 l12 l13 l14 z15 r1⦄,F45 n z1 s2 s3 l4 z5 s6 l7 z8 s9 l10 l11 l12 l13 l14 z15=some r1->
    Trip Tryz.prog inv 45 [.d (.agg [.int .u8 z1,.str s2,.str s3,.list false 1 l4,.int .u8 z5,.str s6,.list true 3 l7,.int .i64 z8,.str s9,.list false 1 l10,.list true 8 l11,.list true 15 l12,.list true 15 l13,.list true 3 l14,.int .i64 z15])] [] (.v (.d (.int .i64 r1))) [] []):=by
 induction n using Nat.strongRecOn with | _ n ih=>
 obtain _ | n:=n
 ·refine⟨?_,?_,?_⟩
  ·intro z1 s2 s3 l4 z5 s6 l7 z8 s9 l10 l11 l12 l13 l14 z15 z16 r1 h
   cases (show (none:Option _)=some _ from h)
  ·intro z1 z2 s3 s4 l5 z6 s7 l8 z9 s10 l11 l12 l13 l14 l15 z16 r1 r2 r3 r4 r5 r6 r7 r8 r9 r10 r11 r12 r13 r14 r15 r16 h
   cases (show (none:Option _)=some _ from h)
  intro z1 s2 s3 l4 z5 s6 l7 z8 s9 l10 l11 l12 l13 l14 z15 r1 h
  cases (show (none:Option _)=some _ from h)
 refine⟨?_,?_,?_⟩
 ·intro z1 s2 s3 l4 z5 s6 l7 z8 s9 l10 l11 l12 l13 l14 z15 z16 r1 h
  rw[F45r0]at h
  refine RoundK.of' tab_ok tab_one fol rfl rfl rfl rfl rfl (by kernel_rfl) (fun M hM hI=>?_)
  try cbv
  replace h:=bO1_inv h
  obtain⟨z17,hr,h⟩:=h
  first | refine .inr (.inl ⟨[],?_⟩) | refine .inl ⟨[],?_⟩
  try cbv
  refine call_pure hM hI ((ih _ (by omega)).2.2 hr) rfl ?_
  clear hr
  try cbv
  replace h:=letF_inv h
  obtain⟨z18,hz,h⟩:=h
  refine⟨z18,hz,?_⟩
  clear hz
  try cbv
  refine drawn ?_ ?_
  ·show _=true
   kernel_rfl
  try cbv
  obtain rfl:=Option.some.inj h
  refine⟨_,_,⟨rfl,rfl,rfl⟩,[],?_⟩
  try cbv
  exact⟨[],rfl,⟨rfl,trivial⟩,trivial,trivial⟩
 ·intro z1 z2 s3 s4 l5 z6 s7 l8 z9 s10 l11 l12 l13 l14 l15 z16 r1 r2 r3 r4 r5 r6 r7 r8 r9 r10 r11 r12 r13 r14 r15 r16 h
  rw[F138x1]at h
  refine Trip.of tab_ok tab_one fol Tryz.func138 rfl (by kernel_rfl) rfl rfl rfl (fun M hM hI=>?_)
  try cbv
  refine seq_go ?_
  try cbv
  refine seq_go ?_
  try cbv
  refine⟨false,?_⟩
  try cbv
  refine⟨true,?_⟩
  try cbv
  refine⟨2,(M.lenI_eq _).trans rfl,?_⟩
  try cbv
  refine loop_inv (T:=Nat×Int×Int) [0,1,15,16,17] [.ext 0,.ext 1,.ext 2] 224 (fun t=>⟨[(0,.v (.c (.yl (.ext 0)))),sE 1 2,(15,.v (.c (.tl false 1 ([.list true 15 l13,.list true 15 l14])))),sI 16 2,sI 17 t.2.1],[(.ext 0,.rnd rf45_0 [sE 3 1]),(.ext 1,.cells [.d (.int .i64 t.2.2)]),(.ext 2,.cells [.d (.int .u8 z2),.d (.str s3),.d (.str s4),.d (.list false 1 l5),.d (.int .u8 z6),.d (.str s7),.d (.list true 3 l8),.d (.int .i64 z9),.d (.str s10),.d (.list false 1 l11),.d (.list true 8 l12),.d (.list true 15 l13),.d (.list true 15 l14),.d (.list true 3 l15),.d (.int .i64 z16)])],224⟩)
    (fun t=>t.1<=n/\L138x1_1 t.1 z2 s3 s4 l5 z6 s7 l8 z9 s10 l11 l12 l13 l14 l15 z16 t.2.1 t.2.2=some (r1,r2,r3,r4,r5,r6,r7,r8,r9,r10,r11,r12,r13,r14,r15,r16)) (fun t=>t.1) (n,((0:Int),z1)) ⟨Nat.le_refl _,h⟩ (by cbv) ?_
  clear h
  rintro⟨m1,z17,z18⟩ ⟨hm1,h⟩
  replace hm1:m1<=n:=hm1
  obtain _ | m1:=m1
  ·replace h:L138x1_1 0 z2 s3 s4 l5 z6 s7 l8 z9 s10 l11 l12 l13 l14 l15 z16 z17 z18=some (r1,r2,r3,r4,r5,r6,r7,r8,r9,r10,r11,r12,r13,r14,r15,r16):=h
   rw[L138x1_1]at h
   cases h
  replace h:L138x1_1 (m1+1) z2 s3 s4 l5 z6 s7 l8 z9 s10 l11 l12 l13 l14 l15 z16 z17 z18=some (r1,r2,r3,r4,r5,r6,r7,r8,r9,r10,r11,r12,r13,r14,r15,r16):=h
  rw[L138x1_1]at h
  try cbv
  refine seq_joinB 18 [0,1,15,16,17,18] [.ext 0,.ext 1,.ext 2] 256 (fun m b=>m<=m1/\L138x1_2 m z2 s3 s4 l5 z6 s7 l8 z9 s10 l11 l12 l13 l14 l15 z16 z17 z18 b=some (r1,r2,r3,r4,r5,r6,r7,r8,r9,r10,r11,r12,r13,r14,r15,r16)) ?_ ?_
  ·try cbv
   refine splitL (fun e=>?_) (fun e=>?_)
   ·replace h:=ite_t e h
    clear e
    try cbv
    exact join_next (m1,true) [0,1,15,16,17,18] [.ext 0,.ext 1,.ext 2] 256 ⟨by omega,h⟩ (by cbv)
   replace h:=ite_f (Int.not_lt.2 e) h
   clear e
   try cbv
   exact join_next (m1,false) [0,1,15,16,17,18] [.ext 0,.ext 1,.ext 2] 256 ⟨by omega,h⟩ (by cbv)
  clear h
  rintro⟨m2,b19⟩ ⟨hm2,h⟩
  try cbv
  replace hm2:m2<=m1:=hm2
  obtain _ | m2:=m2
  ·replace h:L138x1_2 0 z2 s3 s4 l5 z6 s7 l8 z9 s10 l11 l12 l13 l14 l15 z16 z17 z18 b19=some (r1,r2,r3,r4,r5,r6,r7,r8,r9,r10,r11,r12,r13,r14,r15,r16):=h
   rw[L138x1_2]at h
   cases h
  replace h:L138x1_2 (m2+1) z2 s3 s4 l5 z6 s7 l8 z9 s10 l11 l12 l13 l14 l15 z16 z17 z18 b19=some (r1,r2,r3,r4,r5,r6,r7,r8,r9,r10,r11,r12,r13,r14,r15,r16):=h
  rw[L138x1_2]at h
  try cbv
  refine seq_go ?_
  try cbv
  cases b19
  rotate_left
  ·replace h:=itT h
   try cbv
   refine seq_go ?_
   try cbv
   refine seq_go ?_
   try cbv
   replace h:=getF_inv h
   obtain⟨x20,⟨hx0,hx⟩,h⟩:=h
   refine⟨x20,hx0,hx,?_⟩
   clear hx0 hx
   replace h:=ds_listtrue15_inv h
   obtain⟨l21,rfl,h⟩:=h
   try cbv
   refine seq_go ?_
   try cbv
   replace h:=lenF_inv M h
   obtain⟨z22,hz,h⟩:=h
   refine⟨z22,hz,?_⟩
   clear hz
   try cbv
   refine loop_inv (T:=Nat×Int×Int) [0,1,15,16,17,21,22,23] [.ext 0,.ext 1,.ext 2] 448 (fun t=>⟨[(0,.v (.c (.yl (.ext 0)))),sE 1 2,(15,.v (.c (.tl false 1 ([.list true 15 l13,.list true 15 l14])))),sI 16 2,sI 17 z17,sT 21 15 l21,sI 22 z22,sI 23 t.2.1],[(.ext 0,.rnd rf45_0 [sE 3 1]),(.ext 1,.cells [.d (.int .i64 t.2.2)]),(.ext 2,.cells [.d (.int .u8 z2),.d (.str s3),.d (.str s4),.d (.list false 1 l5),.d (.int .u8 z6),.d (.str s7),.d (.list true 3 l8),.d (.int .i64 z9),.d (.str s10),.d (.list false 1 l11),.d (.list true 8 l12),.d (.list true 15 l13),.d (.list true 15 l14),.d (.list true 3 l15),.d (.int .i64 z16)])],448⟩)
     (fun t=>t.1<=m2/\L138x1_3 t.1 z2 s3 s4 l5 z6 s7 l8 z9 s10 l11 l12 l13 l14 l15 z16 z17 l21 z22 t.2.1 t.2.2=some (r1,r2,r3,r4,r5,r6,r7,r8,r9,r10,r11,r12,r13,r14,r15,r16)) (fun t=>t.1) (m2,((0:Int),z18)) ⟨Nat.le_refl _,h⟩ (by cbv) ?_
   clear h
   rintro⟨m3,z23,z24⟩ ⟨hm3,h⟩
   replace hm3:m3<=m2:=hm3
   obtain _ | m3:=m3
   ·replace h:L138x1_3 0 z2 s3 s4 l5 z6 s7 l8 z9 s10 l11 l12 l13 l14 l15 z16 z17 l21 z22 z23 z24=some (r1,r2,r3,r4,r5,r6,r7,r8,r9,r10,r11,r12,r13,r14,r15,r16):=h
    rw[L138x1_3]at h
    cases h
   replace h:L138x1_3 (m3+1) z2 s3 s4 l5 z6 s7 l8 z9 s10 l11 l12 l13 l14 l15 z16 z17 l21 z22 z23 z24=some (r1,r2,r3,r4,r5,r6,r7,r8,r9,r10,r11,r12,r13,r14,r15,r16):=h
   rw[L138x1_3]at h
   try cbv
   refine seq_joinB 24 [0,1,15,16,17,21,22,23,24] [.ext 0,.ext 1,.ext 2] 480 (fun m b=>m<=m3/\L138x1_4 m z2 s3 s4 l5 z6 s7 l8 z9 s10 l11 l12 l13 l14 l15 z16 z17 l21 z22 z23 z24 b=some (r1,r2,r3,r4,r5,r6,r7,r8,r9,r10,r11,r12,r13,r14,r15,r16)) ?_ ?_
   ·try cbv
    refine splitL (fun e=>?_) (fun e=>?_)
    ·replace h:=ite_t e h
     clear e
     try cbv
     exact join_next (m3,true) [0,1,15,16,17,21,22,23,24] [.ext 0,.ext 1,.ext 2] 480 ⟨by omega,h⟩ (by cbv)
    replace h:=ite_f (Int.not_lt.2 e) h
    clear e
    try cbv
    exact join_next (m3,false) [0,1,15,16,17,21,22,23,24] [.ext 0,.ext 1,.ext 2] 480 ⟨by omega,h⟩ (by cbv)
   clear h
   rintro⟨m4,b25⟩ ⟨hm4,h⟩
   try cbv
   replace hm4:m4<=m3:=hm4
   obtain _ | m4:=m4
   ·replace h:L138x1_4 0 z2 s3 s4 l5 z6 s7 l8 z9 s10 l11 l12 l13 l14 l15 z16 z17 l21 z22 z23 z24 b25=some (r1,r2,r3,r4,r5,r6,r7,r8,r9,r10,r11,r12,r13,r14,r15,r16):=h
    rw[L138x1_4]at h
    cases h
   replace h:L138x1_4 (m4+1) z2 s3 s4 l5 z6 s7 l8 z9 s10 l11 l12 l13 l14 l15 z16 z17 l21 z22 z23 z24 b25=some (r1,r2,r3,r4,r5,r6,r7,r8,r9,r10,r11,r12,r13,r14,r15,r16):=h
   rw[L138x1_4]at h
   try cbv
   refine seq_go ?_
   try cbv
   cases b25
   ·replace h:=itF h
    try cbv
    replace h:=letF_inv h
    obtain⟨z44,hz,h⟩:=h
    refine⟨z44,hz,?_⟩
    clear hz
    try cbv
    exact loop_next (m4,(z44,z24)) [0,1,15,16,17] [.ext 0,.ext 1,.ext 2] 224 ⟨by omega,h⟩ (Nat.lt_succ_of_le (by omega)) (by cbv)
   replace h:=itT h
   try cbv
   refine seq_go ?_
   try cbv
   refine seq_go ?_
   try cbv
   replace h:=getF_inv h
   obtain⟨x26,⟨hx0,hx⟩,h⟩:=h
   refine⟨x26,hx0,hx,?_⟩
   clear hx0 hx
   replace h:=ds_t50_inv h
   obtain⟨z27,s28,s29,l30,z31,s32,l33,z34,s35,l36,l37,l38,l39,l40,z41,rfl,h⟩:=h
   try cbv
   refine seq_go ?_
   try cbv
   replace h:=bO1_inv h
   obtain⟨z42,hr,h⟩:=h
   refine yl_with hM hI [.ext 1] (sl0:=[(3,.v (.c (.ptr (.ext 0) 0)))]) rfl rfl rfl rfl ((ih _ (by omega)).1 hr) rfl rfl rfl (by simp) ⟨rfl,trivial⟩ ⟨trivial,trivial⟩ (by simp) ?_
   clear hr
   try cbv
   refine⟨false,rfl,?_⟩
   try cbv
   replace h:=letF_inv h
   obtain⟨z43,hz,h⟩:=h
   refine⟨z43,hz,?_⟩
   clear hz
   try cbv
   exact loop_next (m4,(z43,z42)) [0,1,15,16,17,21,22,23] [.ext 0,.ext 1,.ext 2] 448 ⟨by omega,h⟩ (Nat.lt_succ_of_le (by omega)) (by cbv)
  replace h:=itF h
  try cbv
  refine seq_go ?_
  try cbv
  replace h:=lenF_inv M h
  obtain⟨z45,hz,h⟩:=h
  refine⟨z45,hz,?_⟩
  clear hz
  try cbv
  refine loop_inv (T:=Nat×Int×Int) [0,34,35,36] [.ext 0,.ext 1,.ext 2] 384 (fun t=>⟨[(0,.v (.c (.yl (.ext 0)))),sT 34 3 l15,sI 35 z45,sI 36 t.2.1],[(.ext 0,.rnd rf45_0 [sE 3 1]),(.ext 1,.cells [.d (.int .i64 t.2.2)]),(.ext 2,.cells [.d (.int .u8 z2),.d (.str s3),.d (.str s4),.d (.list false 1 l5),.d (.int .u8 z6),.d (.str s7),.d (.list true 3 l8),.d (.int .i64 z9),.d (.str s10),.d (.list false 1 l11),.d (.list true 8 l12),.d (.list true 15 l13),.d (.list true 15 l14),.d (.list true 3 l15),.d (.int .i64 z16)])],384⟩)
    (fun t=>t.1<=m2/\L138x1_5 t.1 z2 s3 s4 l5 z6 s7 l8 z9 s10 l11 l12 l13 l14 l15 z16 z45 t.2.1 t.2.2=some (r1,r2,r3,r4,r5,r6,r7,r8,r9,r10,r11,r12,r13,r14,r15,r16)) (fun t=>t.1) (m2,((0:Int),z18)) ⟨Nat.le_refl _,h⟩ (by cbv) ?_
  clear h
  rintro⟨m5,z46,z47⟩ ⟨hm5,h⟩
  replace hm5:m5<=m2:=hm5
  obtain _ | m5:=m5
  ·replace h:L138x1_5 0 z2 s3 s4 l5 z6 s7 l8 z9 s10 l11 l12 l13 l14 l15 z16 z45 z46 z47=some (r1,r2,r3,r4,r5,r6,r7,r8,r9,r10,r11,r12,r13,r14,r15,r16):=h
   rw[L138x1_5]at h
   cases h
  replace h:L138x1_5 (m5+1) z2 s3 s4 l5 z6 s7 l8 z9 s10 l11 l12 l13 l14 l15 z16 z45 z46 z47=some (r1,r2,r3,r4,r5,r6,r7,r8,r9,r10,r11,r12,r13,r14,r15,r16):=h
  rw[L138x1_5]at h
  try cbv
  refine seq_joinB 37 [0,34,35,36,37] [.ext 0,.ext 1,.ext 2] 416 (fun m b=>m<=m5/\L138x1_6 m z2 s3 s4 l5 z6 s7 l8 z9 s10 l11 l12 l13 l14 l15 z16 z45 z46 z47 b=some (r1,r2,r3,r4,r5,r6,r7,r8,r9,r10,r11,r12,r13,r14,r15,r16)) ?_ ?_
  ·try cbv
   refine splitL (fun e=>?_) (fun e=>?_)
   ·replace h:=ite_t e h
    clear e
    try cbv
    exact join_next (m5,true) [0,34,35,36,37] [.ext 0,.ext 1,.ext 2] 416 ⟨by omega,h⟩ (by cbv)
   replace h:=ite_f (Int.not_lt.2 e) h
   clear e
   try cbv
   exact join_next (m5,false) [0,34,35,36,37] [.ext 0,.ext 1,.ext 2] 416 ⟨by omega,h⟩ (by cbv)
  clear h
  rintro⟨m6,b48⟩ ⟨hm6,h⟩
  try cbv
  replace hm6:m6<=m5:=hm6
  obtain _ | m6:=m6
  ·replace h:L138x1_6 0 z2 s3 s4 l5 z6 s7 l8 z9 s10 l11 l12 l13 l14 l15 z16 z45 z46 z47 b48=some (r1,r2,r3,r4,r5,r6,r7,r8,r9,r10,r11,r12,r13,r14,r15,r16):=h
   rw[L138x1_6]at h
   cases h
  replace h:L138x1_6 (m6+1) z2 s3 s4 l5 z6 s7 l8 z9 s10 l11 l12 l13 l14 l15 z16 z45 z46 z47 b48=some (r1,r2,r3,r4,r5,r6,r7,r8,r9,r10,r11,r12,r13,r14,r15,r16):=h
  rw[L138x1_6]at h
  try cbv
  refine seq_go ?_
  try cbv
  cases b48
  ·replace h:=itF h
   try cbv
   obtain⟨rfl,rfl,rfl,rfl,rfl,rfl,rfl,rfl,rfl,rfl,rfl,rfl,rfl,rfl,rfl,rfl⟩:=inj16 h
   refine fin_go ?_
   try cbv
   exact⟨[],rfl,rfl,⟨rfl,⟨rfl,⟨rfl,trivial⟩⟩⟩,trivial,trivial⟩
  replace h:=itT h
  try cbv
  refine seq_go ?_
  try cbv
  refine seq_go ?_
  try cbv
  replace h:=getF_inv h
  obtain⟨x49,⟨hx0,hx⟩,h⟩:=h
  refine⟨x49,hx0,hx,?_⟩
  clear hx0 hx
  replace h:=ds_t95_inv h
  obtain⟨s50,s51,l52,rfl,h⟩:=h
  try cbv
  refine seq_go ?_
  try cbv
  replace h:=lenF_inv M h
  obtain⟨z53,hz,h⟩:=h
  refine⟨z53,hz,?_⟩
  clear hz
  try cbv
  refine loop_inv (T:=Nat×Int×Int) [0,34,35,36,41,42,43] [.ext 0,.ext 1,.ext 2] 672 (fun t=>⟨[(0,.v (.c (.yl (.ext 0)))),sT 34 3 l15,sI 35 z45,sI 36 z46,sT 41 15 l52,sI 42 z53,sI 43 t.2.1],[(.ext 0,.rnd rf45_0 [sE 3 1]),(.ext 1,.cells [.d (.int .i64 t.2.2)]),(.ext 2,.cells [.d (.int .u8 z2),.d (.str s3),.d (.str s4),.d (.list false 1 l5),.d (.int .u8 z6),.d (.str s7),.d (.list true 3 l8),.d (.int .i64 z9),.d (.str s10),.d (.list false 1 l11),.d (.list true 8 l12),.d (.list true 15 l13),.d (.list true 15 l14),.d (.list true 3 l15),.d (.int .i64 z16)])],672⟩)
    (fun t=>t.1<=m6/\L138x1_7 t.1 z2 s3 s4 l5 z6 s7 l8 z9 s10 l11 l12 l13 l14 l15 z16 z45 z46 l52 z53 t.2.1 t.2.2=some (r1,r2,r3,r4,r5,r6,r7,r8,r9,r10,r11,r12,r13,r14,r15,r16)) (fun t=>t.1) (m6,((0:Int),z47)) ⟨Nat.le_refl _,h⟩ (by cbv) ?_
  clear h
  rintro⟨m7,z54,z55⟩ ⟨hm7,h⟩
  replace hm7:m7<=m6:=hm7
  obtain _ | m7:=m7
  ·replace h:L138x1_7 0 z2 s3 s4 l5 z6 s7 l8 z9 s10 l11 l12 l13 l14 l15 z16 z45 z46 l52 z53 z54 z55=some (r1,r2,r3,r4,r5,r6,r7,r8,r9,r10,r11,r12,r13,r14,r15,r16):=h
   rw[L138x1_7]at h
   cases h
  replace h:L138x1_7 (m7+1) z2 s3 s4 l5 z6 s7 l8 z9 s10 l11 l12 l13 l14 l15 z16 z45 z46 l52 z53 z54 z55=some (r1,r2,r3,r4,r5,r6,r7,r8,r9,r10,r11,r12,r13,r14,r15,r16):=h
  rw[L138x1_7]at h
  try cbv
  refine seq_joinB 44 [0,34,35,36,41,42,43,44] [.ext 0,.ext 1,.ext 2] 704 (fun m b=>m<=m7/\L138x1_8 m z2 s3 s4 l5 z6 s7 l8 z9 s10 l11 l12 l13 l14 l15 z16 z45 z46 l52 z53 z54 z55 b=some (r1,r2,r3,r4,r5,r6,r7,r8,r9,r10,r11,r12,r13,r14,r15,r16)) ?_ ?_
  ·try cbv
   refine splitL (fun e=>?_) (fun e=>?_)
   ·replace h:=ite_t e h
    clear e
    try cbv
    exact join_next (m7,true) [0,34,35,36,41,42,43,44] [.ext 0,.ext 1,.ext 2] 704 ⟨by omega,h⟩ (by cbv)
   replace h:=ite_f (Int.not_lt.2 e) h
   clear e
   try cbv
   exact join_next (m7,false) [0,34,35,36,41,42,43,44] [.ext 0,.ext 1,.ext 2] 704 ⟨by omega,h⟩ (by cbv)
  clear h
  rintro⟨m8,b56⟩ ⟨hm8,h⟩
  try cbv
  replace hm8:m8<=m7:=hm8
  obtain _ | m8:=m8
  ·replace h:L138x1_8 0 z2 s3 s4 l5 z6 s7 l8 z9 s10 l11 l12 l13 l14 l15 z16 z45 z46 l52 z53 z54 z55 b56=some (r1,r2,r3,r4,r5,r6,r7,r8,r9,r10,r11,r12,r13,r14,r15,r16):=h
   rw[L138x1_8]at h
   cases h
  replace h:L138x1_8 (m8+1) z2 s3 s4 l5 z6 s7 l8 z9 s10 l11 l12 l13 l14 l15 z16 z45 z46 l52 z53 z54 z55 b56=some (r1,r2,r3,r4,r5,r6,r7,r8,r9,r10,r11,r12,r13,r14,r15,r16):=h
  rw[L138x1_8]at h
  try cbv
  refine seq_go ?_
  try cbv
  cases b56
  ·replace h:=itF h
   try cbv
   replace h:=letF_inv h
   obtain⟨z75,hz,h⟩:=h
   refine⟨z75,hz,?_⟩
   clear hz
   try cbv
   exact loop_next (m8,(z75,z55)) [0,34,35,36] [.ext 0,.ext 1,.ext 2] 384 ⟨by omega,h⟩ (Nat.lt_succ_of_le (by omega)) (by cbv)
  replace h:=itT h
  try cbv
  refine seq_go ?_
  try cbv
  refine seq_go ?_
  try cbv
  replace h:=getF_inv h
  obtain⟨x57,⟨hx0,hx⟩,h⟩:=h
  refine⟨x57,hx0,hx,?_⟩
  clear hx0 hx
  replace h:=ds_t50_inv h
  obtain⟨z58,s59,s60,l61,z62,s63,l64,z65,s66,l67,l68,l69,l70,l71,z72,rfl,h⟩:=h
  try cbv
  refine seq_go ?_
  try cbv
  replace h:=bO1_inv h
  obtain⟨z73,hr,h⟩:=h
  refine yl_with hM hI [.ext 1] (sl0:=[(3,.v (.c (.ptr (.ext 0) 0)))]) rfl rfl rfl rfl ((ih _ (by omega)).1 hr) rfl rfl rfl (by simp) ⟨rfl,trivial⟩ ⟨trivial,trivial⟩ (by simp) ?_
  clear hr
  try cbv
  refine⟨false,rfl,?_⟩
  try cbv
  replace h:=letF_inv h
  obtain⟨z74,hz,h⟩:=h
  refine⟨z74,hz,?_⟩
  clear hz
  try cbv
  exact loop_next (m8,(z74,z73)) [0,34,35,36,41,42,43] [.ext 0,.ext 1,.ext 2] 672 ⟨by omega,h⟩ (Nat.lt_succ_of_le (by omega)) (by cbv)
 intro z1 s2 s3 l4 z5 s6 l7 z8 s9 l10 l11 l12 l13 l14 z15 r1 h
 rw[F45]at h
 refine Trip.of tab_ok tab_one fol Tryz.func45 rfl (by kernel_rfl) rfl rfl rfl (fun M hM hI=>?_)
 try cbv
 refine seq_go ?_
 try cbv
 refine seq_go ?_
 try cbv
 refine seq_go ?_
 try cbv
 refine seq_go ?_
 try cbv
 replace h:=lenF_inv M h
 obtain⟨z16,hz,h⟩:=h
 refine⟨z16,hz,?_⟩
 clear hz
 try cbv
 refine loop_inv (T:=Nat×Int×Int) [1,2,3,8,9,10] [.loc 0,.loc 64] 256 (fun t=>⟨[sL 1 0,sI 2 0,sL 3 64,sT 8 8 l11,sI 9 z16,sI 10 t.2.1],[(.loc 0,.cells [.d (.int .u8 z1),.d (.str s2),.d (.str s3),.d (.list false 1 l4),.d (.int .u8 z5),.d (.str s6),.d (.list true 3 l7),.d (.int .i64 z8),.d (.str s9),.d (.list false 1 l10),.d (.list true 8 l11),.d (.list true 15 l12),.d (.list true 15 l13),.d (.list true 3 l14),.d (.int .i64 z15)]),(.loc 64,.cells [.d (.int .i64 t.2.2)])],256⟩)
   (fun t=>t.1<=n/\L45_1 t.1 z1 s2 s3 l4 z5 s6 l7 z8 s9 l10 l11 l12 l13 l14 z15 z16 t.2.1 t.2.2=some r1) (fun t=>t.1) (n,((0:Int),(1:Int))) ⟨Nat.le_refl _,h⟩ (by cbv) ?_
 clear h
 rintro⟨m1,z17,z18⟩ ⟨hm1,h⟩
 replace hm1:m1<=n:=hm1
 obtain _ | m1:=m1
 ·replace h:L45_1 0 z1 s2 s3 l4 z5 s6 l7 z8 s9 l10 l11 l12 l13 l14 z15 z16 z17 z18=some r1:=h
  rw[L45_1]at h
  cases h
 replace h:L45_1 (m1+1) z1 s2 s3 l4 z5 s6 l7 z8 s9 l10 l11 l12 l13 l14 z15 z16 z17 z18=some r1:=h
 rw[L45_1]at h
 try cbv
 refine seq_joinB 11 [1,2,3,8,9,10,11] [.loc 0,.loc 64] 288 (fun m b=>m<=m1/\L45_2 m z1 s2 s3 l4 z5 s6 l7 z8 s9 l10 l11 l12 l13 l14 z15 z16 z17 z18 b=some r1) ?_ ?_
 ·try cbv
  refine splitL (fun e=>?_) (fun e=>?_)
  ·replace h:=ite_t e h
   clear e
   try cbv
   exact join_next (m1,true) [1,2,3,8,9,10,11] [.loc 0,.loc 64] 288 ⟨by omega,h⟩ (by cbv)
  replace h:=ite_f (Int.not_lt.2 e) h
  clear e
  try cbv
  exact join_next (m1,false) [1,2,3,8,9,10,11] [.loc 0,.loc 64] 288 ⟨by omega,h⟩ (by cbv)
 clear h
 rintro⟨m2,b19⟩ ⟨hm2,h⟩
 try cbv
 replace hm2:m2<=m1:=hm2
 obtain _ | m2:=m2
 ·replace h:L45_2 0 z1 s2 s3 l4 z5 s6 l7 z8 s9 l10 l11 l12 l13 l14 z15 z16 z17 z18 b19=some r1:=h
  rw[L45_2]at h
  cases h
 replace h:L45_2 (m2+1) z1 s2 s3 l4 z5 s6 l7 z8 s9 l10 l11 l12 l13 l14 z15 z16 z17 z18 b19=some r1:=h
 rw[L45_2]at h
 try cbv
 refine seq_go ?_
 try cbv
 cases b19
 ·replace h:=itF h
  try cbv
  refine seq_go ?_
  try cbv
  refine seq_go ?_
  try cbv
  replace h:=bO15_inv h
  obtain⟨z32,s33,s34,l35,z36,s37,l38,z39,s40,l41,l42,l43,l44,l45,z46,hr,h⟩:=h
  refine call_go rfl rfl ?_
  try cbv
  refine call_with hM hI [] (T89 _ hr) rfl (by simp) trivial trivial (by simp) ?_
  clear hr
  try cbv
  replace h:=bO16_inv h
  obtain⟨z47,z48,s49,s50,l51,z52,s53,l54,z55,s56,l57,l58,l59,l60,l61,z62,hr,h⟩:=h
  refine range_with hM hI [.loc 352,.loc 64,.loc 320] [(3,.v (.c (.ptr (.loc 64) 0)))] rfl ⟨rfl,trivial⟩ ((ih _ (by omega)).2.1 hr) rfl (by simp) ⟨rfl,⟨rfl,⟨rfl,trivial⟩⟩⟩ ⟨trivial,⟨trivial,⟨trivial,trivial⟩⟩⟩ (by simp) ?_
  clear hr
  try cbv
  refine seq_go ?_
  try cbv
  obtain rfl:=Option.some.inj h
  refine fin_go ?_
  try cbv
  exact⟨[],by trivial⟩
 replace h:=itT h
 try cbv
 refine seq_go ?_
 try cbv
 refine seq_go ?_
 try cbv
 replace h:=getF_inv h
 obtain⟨x20,⟨hx0,hx⟩,h⟩:=h
 refine⟨x20,hx0,hx,?_⟩
 clear hx0 hx
 replace h:=ds_t39_inv h
 obtain⟨z21,z22,s23,s24,s25,l26,l27,z28,rfl,h⟩:=h
 try cbv
 replace h:=bO1_inv h
 obtain⟨z29,hr,h⟩:=h
 first | refine .inr (.inl ⟨[],?_⟩) | refine .inl ⟨[],?_⟩
 try cbv
 refine call_pure hM hI (T44 _ hr) rfl ?_
 clear hr
 try cbv
 replace h:=letF_inv h
 obtain⟨z30,hz,h⟩:=h
 refine⟨z30,hz,?_⟩
 clear hz
 try cbv
 refine drawn ?_ ?_
 ·show _=true
  kernel_rfl
 try cbv
 replace h:=letF_inv h
 obtain⟨z31,hz,h⟩:=h
 refine⟨z31,hz,?_⟩
 clear hz
 try cbv
 exact loop_next (m2,(z31,z30)) [1,2,3,8,9,10] [.loc 0,.loc 64] 256 ⟨by omega,h⟩ (Nat.lt_succ_of_le (by omega)) (by cbv)
theorem T45 (n:Nat):∀⦃z1 s2 s3 l4 z5 s6 l7 z8 s9 l10 l11 l12 l13 l14 z15 r1⦄,F45 n z1 s2 s3 l4 z5 s6 l7 z8 s9 l10 l11 l12 l13 l14 z15=some r1->
  Trip Tryz.prog inv 45 [.d (.agg [.int .u8 z1,.str s2,.str s3,.list false 1 l4,.int .u8 z5,.str s6,.list true 3 l7,.int .i64 z8,.str s9,.list false 1 l10,.list true 8 l11,.list true 15 l12,.list true 15 l13,.list true 3 l14,.int .i64 z15])] [] (.v (.d (.int .i64 r1))) [] []:=(G45r0 n).2.2
mutual
def L14_1:Nat->LD->Int->Int->Int->Option (Int)
 | 0,_,_,_,_=>none
 | n+1,l1,z2,z3,z4=>
  (if z4<z2 then L14_2 n l1 z2 z3 z4 true else L14_2 n l1 z2 z3 z4 false)
def L14_2:Nat->LD->Int->Int->Int->Bool->Option (Int)
 | 0,_,_,_,_,_=>none
 | n+1,l1,z2,z3,z4,b5=>
  (if b5=true then getF l1 z4 fun x6=>ds_t45 x6 fun z7 s8 l9 z10 s11 l12 l13 z14 z15 s16 s17 s18 l19 l20 z21 z22=>letF (IntKind.wrap .i64 (z3+1)) fun z23=>(if z7=(3:Int)then L14_3 n l1 z2 z4 l13 z14 z15 s16 s17 s18 l19 l20 z21 z23 true else L14_3 n l1 z2 z4 l13 z14 z15 s16 s17 s18 l19 l20 z21 z23 false)else some z3)
def L14_3:Nat->LD->Int->Int->LD->Int->Int->BA->BA->BA->LD->LD->Int->Int->Bool->Option (Int)
 | 0,_,_,_,_,_,_,_,_,_,_,_,_,_,_=>none
 | n+1,l1,z2,z4,l13,z14,z15,s16,s17,s18,l19,l20,z21,z23,b24=>
  (if b24=true then bO1 (F44 n z14 z15 s16 s17 s18 l19 l20 z21) fun z25=>letF (IntKind.wrap .i64 (z23+z25)) fun z26=>L14_4 n l1 z2 z4 l13 z26 else L14_4 n l1 z2 z4 l13 z23)
def L14_4:Nat->LD->Int->Int->LD->Int->Option (Int)
 | 0,_,_,_,_,_=>none
 | n+1,l1,z2,z4,l13,z27=>
  lenF l13 fun z28=>L14_5 n l1 z2 z4 l13 z28 z27 (0:Int)
def L14_5:Nat->LD->Int->Int->LD->Int->Int->Int->Option (Int)
 | 0,_,_,_,_,_,_,_=>none
 | n+1,l1,z2,z4,l13,z28,z29,z30=>
  (if z30<z28 then L14_6 n l1 z2 z4 l13 z28 z29 z30 true else L14_6 n l1 z2 z4 l13 z28 z29 z30 false)
def L14_6:Nat->LD->Int->Int->LD->Int->Int->Int->Bool->Option (Int)
 | 0,_,_,_,_,_,_,_,_=>none
 | n+1,l1,z2,z4,l13,z28,z29,z30,b31=>
  (if b31=true then getF l13 z30 fun x32=>ds_t50 x32 fun z33 s34 s35 l36 z37 s38 l39 z40 s41 l42 l43 l44 l45 l46 z47=>bO1 (F45 n z33 s34 s35 l36 z37 s38 l39 z40 s41 l42 l43 l44 l45 l46 z47) fun z48=>letF (IntKind.wrap .i64 (z29+z48)) fun z49=>letF (IntKind.wrap .i64 (z30+1)) fun z50=>L14_5 n l1 z2 z4 l13 z28 z49 z50 else letF (IntKind.wrap .i64 (z4+1)) fun z51=>L14_1 n l1 z2 z29 z51)
end
def F14 (n:Nat) (l1:LD):Option (Int):=
 lenF l1 fun z2=>L14_1 n l1 z2 (0:Int) (0:Int)
theorem T14 (n:Nat):∀⦃l1 r1⦄,F14 n l1=some r1->
    Trip Tryz.prog inv 14 [.d (.agg [.list true 16 l1])] [] (.v (.d (.int .i64 r1))) [] []:=by
 intro l1 r1 h
 unfold F14 at h
 refine Trip.of tab_ok tab_one fol Tryz.func14 rfl (by kernel_rfl) rfl rfl rfl (fun M hM hI=>?_)
 try cbv
 refine seq_go ?_
 try cbv
 refine seq_go ?_
 try cbv
 refine seq_go ?_
 try cbv
 refine seq_go ?_
 try cbv
 replace h:=lenF_inv M h
 obtain⟨z2,hz,h⟩:=h
 refine⟨z2,hz,?_⟩
 clear hz
 try cbv
 refine loop_inv (T:=Nat×Int×Int) [2,3,9,10,11] [] 224 (fun t=>⟨[sI 2 0,sI 3 t.2.1,sT 9 16 l1,sI 10 z2,sI 11 t.2.2],[],224⟩)
   (fun t=>t.1<=n/\L14_1 t.1 l1 z2 t.2.1 t.2.2=some r1) (fun t=>t.1) (n,((0:Int),(0:Int))) ⟨Nat.le_refl _,h⟩ (by cbv) ?_
 clear h
 rintro⟨m1,z3,z4⟩ ⟨hm1,h⟩
 replace hm1:m1<=n:=hm1
 obtain _ | m1:=m1
 ·replace h:L14_1 0 l1 z2 z3 z4=some r1:=h
  rw[L14_1]at h
  cases h
 replace h:L14_1 (m1+1) l1 z2 z3 z4=some r1:=h
 rw[L14_1]at h
 try cbv
 refine seq_joinB 12 [2,3,9,10,11,12] [] 256 (fun m b=>m<=m1/\L14_2 m l1 z2 z3 z4 b=some r1) ?_ ?_
 ·try cbv
  refine splitL (fun e=>?_) (fun e=>?_)
  ·replace h:=ite_t e h
   clear e
   try cbv
   exact join_next (m1,true) [2,3,9,10,11,12] [] 256 ⟨by omega,h⟩ (by cbv)
  replace h:=ite_f (Int.not_lt.2 e) h
  clear e
  try cbv
  exact join_next (m1,false) [2,3,9,10,11,12] [] 256 ⟨by omega,h⟩ (by cbv)
 clear h
 rintro⟨m2,b5⟩ ⟨hm2,h⟩
 try cbv
 replace hm2:m2<=m1:=hm2
 obtain _ | m2:=m2
 ·replace h:L14_2 0 l1 z2 z3 z4 b5=some r1:=h
  rw[L14_2]at h
  cases h
 replace h:L14_2 (m2+1) l1 z2 z3 z4 b5=some r1:=h
 rw[L14_2]at h
 try cbv
 refine seq_go ?_
 try cbv
 cases b5
 ·replace h:=itF h
  try cbv
  refine seq_go ?_
  try cbv
  obtain rfl:=Option.some.inj h
  refine fin_go ?_
  try cbv
  exact⟨[],by trivial⟩
 replace h:=itT h
 try cbv
 refine seq_go ?_
 try cbv
 refine seq_go ?_
 try cbv
 replace h:=getF_inv h
 obtain⟨x6,⟨hx0,hx⟩,h⟩:=h
 refine⟨x6,hx0,hx,?_⟩
 clear hx0 hx
 replace h:=ds_t45_inv h
 obtain⟨z7,s8,l9,z10,s11,l12,l13,z14,z15,s16,s17,s18,l19,l20,z21,z22,rfl,h⟩:=h
 try cbv
 refine seq_go ?_
 try cbv
 replace h:=letF_inv h
 obtain⟨z23,hz,h⟩:=h
 refine⟨z23,hz,?_⟩
 clear hz
 try cbv
 refine seq_join (T:=Nat×Int) (fun t=>⟨[sI 2 0,sI 3 t.2,sL 5 320,sT 9 16 l1,sI 10 z2,sI 11 z4],[(.loc 320,.cells [.d (.int .u8 z7),.d (.str s8),.d (.list true 4 l9),.d (.int .u8 z10),.d (.str s11),.d (.list true 3 l12),.d (.list true 15 l13),.d (.int .u8 z14),.d (.int .i64 z15),.d (.str s16),.d (.str s17),.d (.str s18),.d (.list false 1 l19),.d (.list true 8 l20),.d (.int .i64 z21),.d (.int .i64 z22)])],768⟩) (fun t=>t.1<=m2/\L14_4 t.1 l1 z2 z4 l13 t.2=some r1) ?_ ?_
 ·try cbv
  refine seq_joinB 19 [2,3,5,9,10,11,19] [.loc 320] 576 (fun m b=>m<=m2/\L14_3 m l1 z2 z4 l13 z14 z15 s16 s17 s18 l19 l20 z21 z23 b=some r1) ?_ ?_
  ·try cbv
   refine splitI (fun e=>?_) (fun e=>?_)
   ·replace h:=ite_t e h
    clear e
    try cbv
    exact join_next (m2,true) [2,3,5,9,10,11,19] [.loc 320] 576 ⟨by omega,h⟩ (by cbv)
   replace h:=ite_f e h
   clear e
   try cbv
   exact join_next (m2,false) [2,3,5,9,10,11,19] [.loc 320] 576 ⟨by omega,h⟩ (by cbv)
  clear h
  rintro⟨m3,b24⟩ ⟨hm3,h⟩
  try cbv
  replace hm3:m3<=m2:=hm3
  obtain _ | m3:=m3
  ·replace h:L14_3 0 l1 z2 z4 l13 z14 z15 s16 s17 s18 l19 l20 z21 z23 b24=some r1:=h
   rw[L14_3]at h
   cases h
  replace h:L14_3 (m3+1) l1 z2 z4 l13 z14 z15 s16 s17 s18 l19 l20 z21 z23 b24=some r1:=h
  rw[L14_3]at h
  try cbv
  cases b24
  ·replace h:=itF h
   try cbv
   exact join_next (m3,z23) [2,3,5,9,10,11] [.loc 320] 768 ⟨by omega,h⟩ (by cbv)
  replace h:=itT h
  try cbv
  replace h:=bO1_inv h
  obtain⟨z25,hr,h⟩:=h
  refine call_go rfl rfl ?_
  try cbv
  refine call_pure hM hI (T44 _ hr) rfl ?_
  clear hr
  try cbv
  replace h:=letF_inv h
  obtain⟨z26,hz,h⟩:=h
  refine⟨z26,hz,?_⟩
  clear hz
  try cbv
  exact join_next (m3,z26) [2,3,5,9,10,11] [.loc 320] 768 ⟨by omega,h⟩ (by cbv)
 clear h
 rintro⟨m4,z27⟩ ⟨hm4,h⟩
 replace hm4:m4<=m2:=hm4
 obtain _ | m4:=m4
 ·replace h:L14_4 0 l1 z2 z4 l13 z27=some r1:=h
  rw[L14_4]at h
  cases h
 replace h:L14_4 (m4+1) l1 z2 z4 l13 z27=some r1:=h
 rw[L14_4]at h
 try cbv
 refine seq_go ?_
 try cbv
 replace h:=lenF_inv M h
 obtain⟨z28,hz,h⟩:=h
 refine⟨z28,hz,?_⟩
 clear hz
 try cbv
 refine loop_inv (T:=Nat×Int×Int) [2,3,9,10,11,26,27,28] [] 896 (fun t=>⟨[sI 2 0,sI 3 t.2.1,sT 9 16 l1,sI 10 z2,sI 11 z4,sT 26 15 l13,sI 27 z28,sI 28 t.2.2],[],896⟩)
   (fun t=>t.1<=m4/\L14_5 t.1 l1 z2 z4 l13 z28 t.2.1 t.2.2=some r1) (fun t=>t.1) (m4,(z27,(0:Int))) ⟨Nat.le_refl _,h⟩ (by cbv) ?_
 clear h
 rintro⟨m5,z29,z30⟩ ⟨hm5,h⟩
 replace hm5:m5<=m4:=hm5
 obtain _ | m5:=m5
 ·replace h:L14_5 0 l1 z2 z4 l13 z28 z29 z30=some r1:=h
  rw[L14_5]at h
  cases h
 replace h:L14_5 (m5+1) l1 z2 z4 l13 z28 z29 z30=some r1:=h
 rw[L14_5]at h
 try cbv
 refine seq_joinB 29 [2,3,9,10,11,26,27,28,29] [] 928 (fun m b=>m<=m5/\L14_6 m l1 z2 z4 l13 z28 z29 z30 b=some r1) ?_ ?_
 ·try cbv
  refine splitL (fun e=>?_) (fun e=>?_)
  ·replace h:=ite_t e h
   clear e
   try cbv
   exact join_next (m5,true) [2,3,9,10,11,26,27,28,29] [] 928 ⟨by omega,h⟩ (by cbv)
  replace h:=ite_f (Int.not_lt.2 e) h
  clear e
  try cbv
  exact join_next (m5,false) [2,3,9,10,11,26,27,28,29] [] 928 ⟨by omega,h⟩ (by cbv)
 clear h
 rintro⟨m6,b31⟩ ⟨hm6,h⟩
 try cbv
 replace hm6:m6<=m5:=hm6
 obtain _ | m6:=m6
 ·replace h:L14_6 0 l1 z2 z4 l13 z28 z29 z30 b31=some r1:=h
  rw[L14_6]at h
  cases h
 replace h:L14_6 (m6+1) l1 z2 z4 l13 z28 z29 z30 b31=some r1:=h
 rw[L14_6]at h
 try cbv
 refine seq_go ?_
 try cbv
 cases b31
 ·replace h:=itF h
  try cbv
  replace h:=letF_inv h
  obtain⟨z51,hz,h⟩:=h
  refine⟨z51,hz,?_⟩
  clear hz
  try cbv
  exact loop_next (m6,(z29,z51)) [2,3,9,10,11] [] 224 ⟨by omega,h⟩ (Nat.lt_succ_of_le (by omega)) (by cbv)
 replace h:=itT h
 try cbv
 refine seq_go ?_
 try cbv
 refine seq_go ?_
 try cbv
 replace h:=getF_inv h
 obtain⟨x32,⟨hx0,hx⟩,h⟩:=h
 refine⟨x32,hx0,hx,?_⟩
 clear hx0 hx
 replace h:=ds_t50_inv h
 obtain⟨z33,s34,s35,l36,z37,s38,l39,z40,s41,l42,l43,l44,l45,l46,z47,rfl,h⟩:=h
 try cbv
 replace h:=bO1_inv h
 obtain⟨z48,hr,h⟩:=h
 refine call_go rfl rfl ?_
 try cbv
 refine call_pure hM hI (T45 _ hr) rfl ?_
 clear hr
 try cbv
 replace h:=letF_inv h
 obtain⟨z49,hz,h⟩:=h
 refine⟨z49,hz,?_⟩
 clear hz
 try cbv
 replace h:=letF_inv h
 obtain⟨z50,hz,h⟩:=h
 refine⟨z50,hz,?_⟩
 clear hz
 try cbv
 exact loop_next (m6,(z49,z50)) [2,3,9,10,11,26,27,28] [] 896 ⟨by omega,h⟩ (Nat.lt_succ_of_le (by omega)) (by cbv)
def F20 (n:Nat) (z1:Int) (z2:Int) (s3:BA) (s4:BA) (s5:BA) (l6:LD) (l7:LD) (z8:Int):Option (Bool):=
 bO1 (F53 n z1 z2 s3 s4 s5 l6 l7 z8) fun b9=>letB (!b9) fun b10=>(if b10=true then bO1 (F54 n z1 z2 s3 s4 s5 l6 l7 z8 (40:Int)) fun b11=>some b11 else some false)
theorem T20 (n:Nat):∀⦃z1 z2 s3 s4 s5 l6 l7 z8 r1⦄,F20 n z1 z2 s3 s4 s5 l6 l7 z8=some r1->
    Trip Tryz.prog inv 20 [.d (.agg [.int .u8 z1,.int .i64 z2,.str s3,.str s4,.str s5,.list false 1 l6,.list true 8 l7,.int .i64 z8])] [] (.v (.d (.bool r1))) [] []:=by
 intro z1 z2 s3 s4 s5 l6 l7 z8 r1 h
 unfold F20 at h
 refine Trip.of tab_ok tab_one fol Tryz.func20 rfl (by kernel_rfl) rfl rfl rfl (fun M hM hI=>?_)
 try cbv
 refine seq_go ?_
 try cbv
 refine seq_go ?_
 try cbv
 replace h:=bO1_inv h
 obtain⟨b9,hr,h⟩:=h
 refine call_go rfl rfl ?_
 try cbv
 refine call_pure hM hI (T53 _ hr) rfl ?_
 clear hr
 try cbv
 replace h:=letB_inv h
 obtain⟨b10,hz,h⟩:=h
 refine⟨b10,not_eq' hz,?_⟩
 clear hz
 try cbv
 cases b10
 ·replace h:=itF h
  try cbv
  obtain rfl:=Option.some.inj h
  refine fin_go ?_
  try cbv
  exact⟨[],by trivial⟩
 replace h:=itT h
 try cbv
 replace h:=bO1_inv h
 obtain⟨b11,hr,h⟩:=h
 refine call_go rfl rfl ?_
 try cbv
 refine call_pure hM hI (T54 _ hr) rfl ?_
 clear hr
 try cbv
 obtain rfl:=Option.some.inj h
 refine fin_go ?_
 try cbv
 exact⟨[],by trivial⟩
def F21 (n:Nat) (z1:Int) (s2:BA) (l3:LD):Option (Bool):=
 bO1 (F55 n z1 s2 l3 (40:Int)) fun b4=>some b4
theorem T21 (n:Nat):∀⦃z1 s2 l3 r1⦄,F21 n z1 s2 l3=some r1->
    Trip Tryz.prog inv 21 [.d (.agg [.int .u8 z1,.str s2,.list true 3 l3])] [] (.v (.d (.bool r1))) [] []:=by
 intro z1 s2 l3 r1 h
 unfold F21 at h
 refine Trip.of tab_ok tab_one fol Tryz.func21 rfl (by kernel_rfl) rfl rfl rfl (fun M hM hI=>?_)
 try cbv
 refine seq_go ?_
 try cbv
 refine seq_go ?_
 try cbv
 replace h:=bO1_inv h
 obtain⟨b4,hr,h⟩:=h
 refine call_go rfl rfl ?_
 try cbv
 refine call_pure hM hI (T55 _ hr) rfl ?_
 clear hr
 try cbv
 obtain rfl:=Option.some.inj h
 refine fin_go ?_
 try cbv
 exact⟨[],by trivial⟩
def F22 (n:Nat):Option LD:=
 letL [.agg [.int .u8 3,.str k_main,.list true 4 [],.int .u8 1,.str ByteArray.empty,.list true 3 [],.list true 15 [],.int .u8 1,.int .i64 0,.str ByteArray.empty,.str ByteArray.empty,.str ByteArray.empty,.list false 1 [],.list true 8 [],.int .i64 0,.int .i64 0]] fun l1=>some l1
theorem T22 (n:Nat):∀⦃r1⦄,F22 n=some r1->
    Trip Tryz.prog inv 22 [] [] (.v (.agg [.ow (.loc 0)])) [] [.tree .row true 16 r1 none]:=by
 intro r1 h
 unfold F22 at h
 refine Trip.of tab_ok tab_one fol Tryz.func22 rfl (by kernel_rfl) rfl rfl rfl (fun M hM hI=>?_)
 try cbv
 refine seq_go ?_
 try cbv
 refine seq_go ?_
 try cbv
 refine⟨true,?_⟩
 try cbv
 refine⟨[],?_⟩
 try cbv
 replace h:=letL_inv h
 obtain⟨l1,hz,h⟩:=h
 refine⟨l1,hz,?_⟩
 clear hz
 try cbv
 obtain rfl:=Option.some.inj h
 refine fin_go ?_
 try cbv
 exact⟨[.loc 128],rfl,rfl,trivial,⟨rfl,trivial⟩,trivial⟩
mutual
def L103_1:Nat->LD->Int->LD->Int->Option LD
 | 0,_,_,_,_=>none
 | n+1,l1,z2,l3,z4=>
  (if z4<z2 then L103_2 n l1 z2 l3 z4 true else L103_2 n l1 z2 l3 z4 false)
def L103_2:Nat->LD->Int->LD->Int->Bool->Option LD
 | 0,_,_,_,_,_=>none
 | n+1,l1,z2,l3,z4,b5=>
  (if b5=true then getF l1 z4 fun x6=>ds_t33 x6 fun z7 s8 l9=>bO3 (F102 n z7 s8 l9) fun z10 s11 l12=>appF 48 l3 ([.agg [.int .u8 z10,.str s11,.list true 3 l12]]) fun l13=>letF (IntKind.wrap .i64 (z4+1)) fun z14=>L103_1 n l1 z2 l13 z14 else some l3)
def F103:Nat->LD->Option LD
 | 0,_=>none
 | n+1,l1=>
  lenF l1 fun z2=>L103_1 n l1 z2 ([]:LD) (0:Int)
def F102:Nat->Int->BA->LD->Option (Int×BA×LD)
 | 0,_,_,_=>none
 | n+1,z1,s2,l3=>
  bO1 (F103 n l3) fun l4=>some (z1,s2,l4)
end
theorem G103 (n:Nat):(∀⦃l1 r1⦄,F103 n l1=some r1->
    Trip Tryz.prog inv 103 [.d (.list true 3 l1),.c (.fn 102 [.ext 0])] [.cells [.fn 102 [.ext 0]]] (.v (.d (.list true 3 r1))) [.cells [.fn 102 [.ext 0]]] [])/\
    (∀⦃z1 s2 l3 r1 r2 r3⦄,F102 n z1 s2 l3=some (r1,r2,r3)->
    Trip Tryz.prog inv 102 [.d (.agg [.int .u8 z1,.str s2,.list true 3 l3]),.c (.ptr (.ext 0) 0)] [.cells [.fn 102 [.ext 0]]] (.v (.d (.agg [.int .u8 r1,.str r2,.list true 3 r3]))) [.cells [.fn 102 [.ext 0]]] []):=by
 induction n using Nat.strongRecOn with | _ n ih=>
 obtain _ | n:=n
 ·refine⟨?_,?_⟩
  ·intro l1 r1 h
   cases (show (none:Option _)=some _ from h)
  intro z1 s2 l3 r1 r2 r3 h
  cases (show (none:Option _)=some _ from h)
 refine⟨?_,?_⟩
 rotate_left
 ·intro z1 s2 l3 r1 r2 r3 h
  rw[F102]at h
  refine Trip.of tab_ok tab_one fol Tryz.func102 rfl (by kernel_rfl) rfl rfl rfl (fun M hM hI=>?_)
  try cbv
  refine seq_go ?_
  try cbv
  refine seq_go ?_
  try cbv
  replace h:=bO1_inv h
  obtain⟨l4,hr,h⟩:=h
  refine call_go rfl rfl ?_
  try cbv
  refine call_with hM hI [.ext 0] ((ih _ (by omega)).1 hr) rfl (by simp) ⟨rfl,trivial⟩ ⟨trivial,trivial⟩ (by simp) ?_
  clear hr
  try cbv
  refine seq_go ?_
  try cbv
  obtain⟨rfl,rfl,rfl⟩:=inj3 h
  refine fin_go ?_
  try cbv
  exact⟨[],rfl,rfl,⟨rfl,trivial⟩,trivial,trivial⟩
 intro l1 r1 h
 rw[F103]at h
 refine Trip.of tab_ok tab_one fol Tryz.func103 rfl (by kernel_rfl) rfl rfl rfl (fun M hM hI=>?_)
 try cbv
 refine seq_go ?_
 try cbv
 refine seq_go ?_
 try cbv
 refine seq_go ?_
 try cbv
 refine seq_go ?_
 try cbv
 replace h:=lenF_inv M h
 obtain⟨z2,hz,h⟩:=h
 refine⟨z2,hz,?_⟩
 clear hz
 try cbv
 refine loop_invT (T:=Nat×LD×Int) [.slot 5 true 3 33] [1,4,5,8,9,10] [.ext 0,.loc 160] 192 (fun t=>⟨[(1,.v (.c (.fn 102 [.ext 0]))),(4,.v (.c (.nils true 3))),(5,.v (.c (.lst (.loc 160) true 3 t.2.1))),sT 8 3 l1,sI 9 z2,sI 10 t.2.2],[(.ext 0,.cells [.fn 102 [.ext 0]]),(.loc 160,.tok t.2.1.length 3 33)],192⟩)
   (fun t=>t.1<=n/\L103_1 t.1 l1 z2 t.2.1 t.2.2=some r1) (fun t=>t.1) (n,(([]:LD),(0:Int))) ⟨Nat.le_refl _,h⟩ (by cbv) ?_
 clear h
 rintro⟨m1,l3,z4⟩ ⟨hm1,h⟩
 replace hm1:m1<=n:=hm1
 obtain _ | m1:=m1
 ·replace h:L103_1 0 l1 z2 l3 z4=some r1:=h
  rw[L103_1]at h
  cases h
 replace h:L103_1 (m1+1) l1 z2 l3 z4=some r1:=h
 rw[L103_1]at h
 try cbv
 refine seq_joinB 11 [1,4,5,8,9,10,11] [.ext 0,.loc 160] 224 (fun m b=>m<=m1/\L103_2 m l1 z2 l3 z4 b=some r1) ?_ ?_
 ·try cbv
  refine splitL (fun e=>?_) (fun e=>?_)
  ·replace h:=ite_t e h
   clear e
   try cbv
   exact join_next (m1,true) [1,4,5,8,9,10,11] [.ext 0,.loc 160] 224 ⟨by omega,h⟩ (by cbv)
  replace h:=ite_f (Int.not_lt.2 e) h
  clear e
  try cbv
  exact join_next (m1,false) [1,4,5,8,9,10,11] [.ext 0,.loc 160] 224 ⟨by omega,h⟩ (by cbv)
 clear h
 rintro⟨m2,b5⟩ ⟨hm2,h⟩
 try cbv
 replace hm2:m2<=m1:=hm2
 obtain _ | m2:=m2
 ·replace h:L103_2 0 l1 z2 l3 z4 b5=some r1:=h
  rw[L103_2]at h
  cases h
 replace h:L103_2 (m2+1) l1 z2 l3 z4 b5=some r1:=h
 rw[L103_2]at h
 try cbv
 refine seq_go ?_
 try cbv
 cases b5
 ·replace h:=itF h
  try cbv
  refine seq_go ?_
  try cbv
  obtain rfl:=Option.some.inj h
  refine fin_go ?_
  try cbv
  exact⟨[],rfl,rfl,⟨rfl,trivial⟩,trivial,trivial⟩
 replace h:=itT h
 try cbv
 refine seq_go ?_
 try cbv
 refine seq_go ?_
 try cbv
 replace h:=getF_inv h
 obtain⟨x6,⟨hx0,hx⟩,h⟩:=h
 refine⟨x6,hx0,hx,?_⟩
 clear hx0 hx
 replace h:=ds_t33_inv h
 obtain⟨z7,s8,l9,rfl,h⟩:=h
 try cbv
 replace h:=bO3_inv h
 obtain⟨z10,s11,l12,hr,h⟩:=h
 refine call_go rfl rfl ?_
 try cbv
 refine call_with hM hI [.ext 0] ((ih _ (by omega)).2 hr) rfl (by simp) ⟨rfl,trivial⟩ ⟨trivial,trivial⟩ (by simp) ?_
 clear hr
 try cbv
 refine⟨false,?_⟩
 try cbv
 refine⟨true,?_⟩
 try cbv
 replace h:=appF_inv h
 obtain⟨l13,hb,hz,h⟩:=h
 refine⟨false,?_⟩
 try cbv
 first | refine⟨rfl,(M.lock_iff _).2 hb,l13,hz,?_⟩ | refine⟨(M.lock_iff _).2 hb,l13,hz,?_⟩
 clear hb hz
 try cbv
 replace h:=letF_inv h
 obtain⟨z14,hz,h⟩:=h
 refine⟨z14,hz,?_⟩
 clear hz
 try cbv
 exact loop_next (m2,(l13,z14)) [1,4,5,8,9,10] [.ext 0,.loc 160] 192 ⟨by omega,h⟩ (Nat.lt_succ_of_le (by omega)) (by cbv)
theorem T102 (n:Nat):∀⦃z1 s2 l3 r1 r2 r3⦄,F102 n z1 s2 l3=some (r1,r2,r3)->
  Trip Tryz.prog inv 102 [.d (.agg [.int .u8 z1,.str s2,.list true 3 l3]),.c (.ptr (.ext 0) 0)] [.cells [.fn 102 [.ext 0]]] (.v (.d (.agg [.int .u8 r1,.str r2,.list true 3 r3]))) [.cells [.fn 102 [.ext 0]]] []:=(G103 n).2
def L105_1:Nat->LD->Bool->Option LD
 | 0,_,_=>none
 | n+1,l1,b2=>
  (if b2=true then some ([]:LD)else appF 16 [] l1 fun l3=>some l3)
def F105 (n:Nat) (l1:LD):Option LD:=
 (nilF l1 (L105_1 n l1 true) (L105_1 n l1 false))
theorem T105 (n:Nat):∀⦃l1 r1⦄,F105 n l1=some r1->
    Trip Tryz.prog inv 105 [.d (.list false 1 l1)] [] (.v (.d (.list false 1 r1))) [] []:=by
 intro l1 r1 h
 unfold F105 at h
 refine Trip.of tab_ok tab_one fol Tryz.func105 rfl (by kernel_rfl) rfl rfl rfl (fun M hM hI=>?_)
 try cbv
 refine seq_go ?_
 try cbv
 refine seq_go ?_
 try cbv
 refine seq_joinB 4 [0,2,4] [] 96 (fun m b=>m<=n/\L105_1 m l1 b=some r1) ?_ ?_
 ·try cbv
  replace h:=nilF_inv h
  obtain⟨h,hA⟩:=h
  refine nil_both ?_ (fun e=>?_)
  ·clear hA
   try cbv
   exact join_next (n,false) [0,2,4] [] 96 ⟨by omega,h⟩ (by cbv)
  replace h:=hA e
  clear hA
  try cbv
  exact join_next (n,true) [0,2,4] [] 96 ⟨by omega,h⟩ (by cbv)
 clear h
 rintro⟨m1,b2⟩ ⟨hm1,h⟩
 try cbv
 replace hm1:m1<=n:=hm1
 obtain _ | m1:=m1
 ·replace h:L105_1 0 l1 b2=some r1:=h
  rw[L105_1]at h
  cases h
 replace h:L105_1 (m1+1) l1 b2=some r1:=h
 rw[L105_1]at h
 try cbv
 cases b2
 ·replace h:=itF h
  try cbv
  refine seq_go ?_
  try cbv
  refine⟨false,?_⟩
  try cbv
  refine⟨true,?_⟩
  try cbv
  replace h:=appF_inv h
  obtain⟨l3,hb,hz,h⟩:=h
  refine⟨false,?_⟩
  try cbv
  refine⟨(M.lock_iff _).2 hb,l3,hz,false,?_⟩
  clear hb hz
  try cbv
  obtain rfl:=Option.some.inj h
  refine fin_go ?_
  try cbv
  exact⟨[],by trivial⟩
 replace h:=itT h
 try cbv
 refine seq_go ?_
 try cbv
 obtain rfl:=Option.some.inj h
 refine fin_go ?_
 try cbv
 exact⟨[],by trivial⟩
def F104 (n:Nat) (s1:BA) (l2:LD):Option (BA×LD):=
 bO1 (F105 n l2) fun l3=>some (s1,l3)
theorem T104 (n:Nat):∀⦃s1 l2 r1 r2⦄,F104 n s1 l2=some (r1,r2)->
    Trip Tryz.prog inv 104 [.d (.agg [.str s1,.list false 1 l2])] [] (.v (.d (.agg [.str r1,.list false 1 r2]))) [] []:=by
 intro s1 l2 r1 r2 h
 unfold F104 at h
 refine Trip.of tab_ok tab_one fol Tryz.func104 rfl (by kernel_rfl) rfl rfl rfl (fun M hM hI=>?_)
 try cbv
 refine seq_go ?_
 try cbv
 refine seq_go ?_
 try cbv
 replace h:=bO1_inv h
 obtain⟨l3,hr,h⟩:=h
 refine call_go rfl rfl ?_
 try cbv
 refine call_pure hM hI (T105 _ hr) rfl ?_
 clear hr
 try cbv
 refine seq_go ?_
 try cbv
 obtain⟨rfl,rfl⟩:=inj2 h
 refine fin_go ?_
 try cbv
 exact⟨[],by trivial⟩
def F58 (n:Nat) (z1:Int):Option (Unit):=
 some ()
theorem T58 (n:Nat):∀⦃z1⦄,F58 n z1=some ()->
    Trip Tryz.prog inv 58 [.d (.int .i64 z1)] [] (.v (.d (.int .i64 0))) [] []:=by
 intro z1 h
 unfold F58 at h
 refine Trip.of tab_ok tab_one fol Tryz.func58 rfl (by kernel_rfl) rfl rfl rfl (fun M hM hI=>?_)
 try cbv
 refine seq_go ?_
 try cbv
 refine seq_go ?_
 try cbv
 skip
 refine fin_go ?_
 try cbv
 exact⟨[],by trivial⟩
mutual
def F106:Nat->Int->Int->BA->BA->BA->LD->LD->Int->Option (Int×Int×BA×BA×BA×LD×LD)
 | 0,_,_,_,_,_,_,_,_=>none
 | n+1,z1,z2,s3,s4,s5,l6,l7,z8=>
  bO2 (F104 n s5 l6) fun s9 l10=>bO1 (F107 n l7) fun l11=>bO0 (F58 n z8) (some (z1,z2,s3,s4,s9,l10,l11))
def L107_1:Nat->LD->Int->LD->Int->Option LD
 | 0,_,_,_,_=>none
 | n+1,l1,z2,l3,z4=>
  (if z4<z2 then L107_2 n l1 z2 l3 z4 true else L107_2 n l1 z2 l3 z4 false)
def L107_2:Nat->LD->Int->LD->Int->Bool->Option LD
 | 0,_,_,_,_,_=>none
 | n+1,l1,z2,l3,z4,b5=>
  (if b5=true then getF l1 z4 fun x6=>ds_t39 x6 fun z7 z8 s9 s10 s11 l12 l13 z14=>bO7 (F106 n z7 z8 s9 s10 s11 l12 l13 z14) fun z15 z16 s17 s18 s19 l20 l21=>appF 120 l3 ([.agg [.int .u8 z15,.int .i64 z16,.str s17,.str s18,.str s19,.list false 1 l20,.list true 8 l21,.int .i64 0]]) fun l22=>letF (IntKind.wrap .i64 (z4+1)) fun z23=>L107_1 n l1 z2 l22 z23 else some l3)
def F107:Nat->LD->Option LD
 | 0,_=>none
 | n+1,l1=>
  lenF l1 fun z2=>L107_1 n l1 z2 ([]:LD) (0:Int)
end
theorem G106 (n:Nat):(∀⦃z1 z2 s3 s4 s5 l6 l7 z8 r1 r2 r3 r4 r5 r6 r7⦄,F106 n z1 z2 s3 s4 s5 l6 l7 z8=some (r1,r2,r3,r4,r5,r6,r7)->
    Trip Tryz.prog inv 106 [.d (.agg [.int .u8 z1,.int .i64 z2,.str s3,.str s4,.str s5,.list false 1 l6,.list true 8 l7,.int .i64 z8]),.c (.ptr (.ext 0) 0),.c (.ptr (.ext 1) 0),.c (.ptr (.ext 2) 0)] [.cells [.fn 104 []],.cells [.fn 106 [.ext 0,.ext 1,.ext 2]],.cells [.fn 58 []]] (.v (.d (.agg [.int .u8 r1,.int .i64 r2,.str r3,.str r4,.str r5,.list false 1 r6,.list true 8 r7,.int .i64 0]))) [.cells [.fn 104 []],.cells [.fn 106 [.ext 0,.ext 1,.ext 2]],.cells [.fn 58 []]] [])/\
    (∀⦃l1 r1⦄,F107 n l1=some r1->
    Trip Tryz.prog inv 107 [.d (.list true 8 l1),.c (.fn 106 [.ext 0,.ext 1,.ext 2])] [.cells [.fn 104 []],.cells [.fn 106 [.ext 0,.ext 1,.ext 2]],.cells [.fn 58 []]] (.v (.d (.list true 8 r1))) [.cells [.fn 104 []],.cells [.fn 106 [.ext 0,.ext 1,.ext 2]],.cells [.fn 58 []]] []):=by
 induction n using Nat.strongRecOn with | _ n ih=>
 obtain _ | n:=n
 ·refine⟨?_,?_⟩
  ·intro z1 z2 s3 s4 s5 l6 l7 z8 r1 r2 r3 r4 r5 r6 r7 h
   cases (show (none:Option _)=some _ from h)
  intro l1 r1 h
  cases (show (none:Option _)=some _ from h)
 refine⟨?_,?_⟩
 ·intro z1 z2 s3 s4 s5 l6 l7 z8 r1 r2 r3 r4 r5 r6 r7 h
  rw[F106]at h
  refine Trip.of tab_ok tab_one fol Tryz.func106 rfl (by kernel_rfl) rfl rfl rfl (fun M hM hI=>?_)
  try cbv
  refine seq_go ?_
  try cbv
  refine seq_go ?_
  try cbv
  replace h:=bO2_inv h
  obtain⟨s9,l10,hr,h⟩:=h
  first | refine .inr (.inl ⟨[],?_⟩) | refine .inl ⟨[],?_⟩
  try cbv
  refine call_pure hM hI (T104 _ hr) rfl ?_
  clear hr
  try cbv
  replace h:=bO1_inv h
  obtain⟨l11,hr,h⟩:=h
  first | refine .inr (.inr ⟨[.ext 0,.ext 1,.ext 2],?_⟩) | refine .inr ⟨[.ext 0,.ext 1,.ext 2],?_⟩
  try cbv
  refine call_with hM hI [.ext 0,.ext 1,.ext 2] ((ih _ (by omega)).2 hr) rfl (by simp) ⟨rfl,⟨rfl,⟨rfl,trivial⟩⟩⟩ ⟨trivial,⟨trivial,⟨trivial,trivial⟩⟩⟩ (by simp) ?_
  try cbv
  first | refine⟨(rfl:(_:Option AObj)=_),?_⟩ | skip
  first | refine⟨(rfl:(_:Option AObj)=_),?_⟩ | skip
  first | refine⟨(rfl:(_:Option AObj)=_),?_⟩ | skip
  try cbv
  clear hr
  try cbv
  replace h:=bO0_inv h
  obtain⟨hr,h⟩:=h
  first | refine .inr (.inl ⟨[],?_⟩) | refine .inl ⟨[],?_⟩
  try cbv
  refine call_pure hM hI (T58 _ hr) rfl ?_
  clear hr
  try cbv
  refine drawn ?_ ?_
  ·show _=true
   kernel_rfl
  try cbv
  refine seq_go ?_
  try cbv
  obtain⟨rfl,rfl,rfl,rfl,rfl,rfl,rfl⟩:=inj7 h
  refine fin_go ?_
  try cbv
  exact⟨[],rfl,rfl,⟨rfl,⟨rfl,⟨rfl,trivial⟩⟩⟩,trivial,trivial⟩
 intro l1 r1 h
 rw[F107]at h
 refine Trip.of tab_ok tab_one fol Tryz.func107 rfl (by kernel_rfl) rfl rfl rfl (fun M hM hI=>?_)
 try cbv
 refine seq_go ?_
 try cbv
 refine seq_go ?_
 try cbv
 refine seq_go ?_
 try cbv
 refine seq_go ?_
 try cbv
 replace h:=lenF_inv M h
 obtain⟨z2,hz,h⟩:=h
 refine⟨z2,hz,?_⟩
 clear hz
 try cbv
 refine loop_invT (T:=Nat×LD×Int) [.slot 5 true 8 39] [1,4,5,8,9,10] [.ext 0,.ext 1,.ext 2,.loc 160] 192 (fun t=>⟨[(1,.v (.c (.fn 106 [.ext 0,.ext 1,.ext 2]))),(4,.v (.c (.nils true 8))),(5,.v (.c (.lst (.loc 160) true 8 t.2.1))),sT 8 8 l1,sI 9 z2,sI 10 t.2.2],[(.ext 0,.cells [.fn 104 []]),(.ext 1,.cells [.fn 106 [.ext 0,.ext 1,.ext 2]]),(.ext 2,.cells [.fn 58 []]),(.loc 160,.tok t.2.1.length 8 39)],192⟩)
   (fun t=>t.1<=n/\L107_1 t.1 l1 z2 t.2.1 t.2.2=some r1) (fun t=>t.1) (n,(([]:LD),(0:Int))) ⟨Nat.le_refl _,h⟩ (by cbv) ?_
 clear h
 rintro⟨m1,l3,z4⟩ ⟨hm1,h⟩
 replace hm1:m1<=n:=hm1
 obtain _ | m1:=m1
 ·replace h:L107_1 0 l1 z2 l3 z4=some r1:=h
  rw[L107_1]at h
  cases h
 replace h:L107_1 (m1+1) l1 z2 l3 z4=some r1:=h
 rw[L107_1]at h
 try cbv
 refine seq_joinB 11 [1,4,5,8,9,10,11] [.ext 0,.ext 1,.ext 2,.loc 160] 224 (fun m b=>m<=m1/\L107_2 m l1 z2 l3 z4 b=some r1) ?_ ?_
 ·try cbv
  refine splitL (fun e=>?_) (fun e=>?_)
  ·replace h:=ite_t e h
   clear e
   try cbv
   exact join_next (m1,true) [1,4,5,8,9,10,11] [.ext 0,.ext 1,.ext 2,.loc 160] 224 ⟨by omega,h⟩ (by cbv)
  replace h:=ite_f (Int.not_lt.2 e) h
  clear e
  try cbv
  exact join_next (m1,false) [1,4,5,8,9,10,11] [.ext 0,.ext 1,.ext 2,.loc 160] 224 ⟨by omega,h⟩ (by cbv)
 clear h
 rintro⟨m2,b5⟩ ⟨hm2,h⟩
 try cbv
 replace hm2:m2<=m1:=hm2
 obtain _ | m2:=m2
 ·replace h:L107_2 0 l1 z2 l3 z4 b5=some r1:=h
  rw[L107_2]at h
  cases h
 replace h:L107_2 (m2+1) l1 z2 l3 z4 b5=some r1:=h
 rw[L107_2]at h
 try cbv
 refine seq_go ?_
 try cbv
 cases b5
 ·replace h:=itF h
  try cbv
  refine seq_go ?_
  try cbv
  obtain rfl:=Option.some.inj h
  refine fin_go ?_
  try cbv
  exact⟨[],rfl,rfl,⟨rfl,⟨rfl,⟨rfl,trivial⟩⟩⟩,trivial,trivial⟩
 replace h:=itT h
 try cbv
 refine seq_go ?_
 try cbv
 refine seq_go ?_
 try cbv
 replace h:=getF_inv h
 obtain⟨x6,⟨hx0,hx⟩,h⟩:=h
 refine⟨x6,hx0,hx,?_⟩
 clear hx0 hx
 replace h:=ds_t39_inv h
 obtain⟨z7,z8,s9,s10,s11,l12,l13,z14,rfl,h⟩:=h
 try cbv
 replace h:=bO7_inv h
 obtain⟨z15,z16,s17,s18,s19,l20,l21,hr,h⟩:=h
 refine call_go rfl rfl ?_
 try cbv
 refine call_with hM hI [.ext 0,.ext 1,.ext 2] ((ih _ (by omega)).1 hr) rfl (by simp) ⟨rfl,⟨rfl,⟨rfl,trivial⟩⟩⟩ ⟨trivial,⟨trivial,⟨trivial,trivial⟩⟩⟩ (by simp) ?_
 clear hr
 try cbv
 refine⟨false,?_⟩
 try cbv
 refine⟨true,?_⟩
 try cbv
 replace h:=appF_inv h
 obtain⟨l22,hb,hz,h⟩:=h
 refine⟨false,?_⟩
 try cbv
 first | refine⟨rfl,(M.lock_iff _).2 hb,l22,hz,?_⟩ | refine⟨(M.lock_iff _).2 hb,l22,hz,?_⟩
 clear hb hz
 try cbv
 replace h:=letF_inv h
 obtain⟨z23,hz,h⟩:=h
 refine⟨z23,hz,?_⟩
 clear hz
 try cbv
 exact loop_next (m2,(l22,z23)) [1,4,5,8,9,10] [.ext 0,.ext 1,.ext 2,.loc 160] 192 ⟨by omega,h⟩ (Nat.lt_succ_of_le (by omega)) (by cbv)
theorem T106 (n:Nat):∀⦃z1 z2 s3 s4 s5 l6 l7 z8 r1 r2 r3 r4 r5 r6 r7⦄,F106 n z1 z2 s3 s4 s5 l6 l7 z8=some (r1,r2,r3,r4,r5,r6,r7)->
  Trip Tryz.prog inv 106 [.d (.agg [.int .u8 z1,.int .i64 z2,.str s3,.str s4,.str s5,.list false 1 l6,.list true 8 l7,.int .i64 z8]),.c (.ptr (.ext 0) 0),.c (.ptr (.ext 1) 0),.c (.ptr (.ext 2) 0)] [.cells [.fn 104 []],.cells [.fn 106 [.ext 0,.ext 1,.ext 2]],.cells [.fn 58 []]] (.v (.d (.agg [.int .u8 r1,.int .i64 r2,.str r3,.str r4,.str r5,.list false 1 r6,.list true 8 r7,.int .i64 0]))) [.cells [.fn 104 []],.cells [.fn 106 [.ext 0,.ext 1,.ext 2]],.cells [.fn 58 []]] []:=(G106 n).1
theorem T107 (n:Nat):∀⦃l1 r1⦄,F107 n l1=some r1->
  Trip Tryz.prog inv 107 [.d (.list true 8 l1),.c (.fn 106 [.ext 0,.ext 1,.ext 2])] [.cells [.fn 104 []],.cells [.fn 106 [.ext 0,.ext 1,.ext 2]],.cells [.fn 58 []]] (.v (.d (.list true 8 r1))) [.cells [.fn 104 []],.cells [.fn 106 [.ext 0,.ext 1,.ext 2]],.cells [.fn 58 []]] []:=(G106 n).2
mutual
def F108:Nat->BA->BA->LD->Option (BA×BA×LD)
 | 0,_,_,_=>none
 | n+1,s1,s2,l3=>
  bO1 (F109 n l3) fun l4=>some (s1,s2,l4)
def L111_1:Nat->LD->Int->LD->Int->Option LD
 | 0,_,_,_,_=>none
 | n+1,l1,z2,l3,z4=>
  (if z4<z2 then L111_2 n l1 z2 l3 z4 true else L111_2 n l1 z2 l3 z4 false)
def L111_2:Nat->LD->Int->LD->Int->Bool->Option LD
 | 0,_,_,_,_,_=>none
 | n+1,l1,z2,l3,z4,b5=>
  (if b5=true then getF l1 z4 fun x6=>ds_t95 x6 fun s7 s8 l9=>bO3 (F108 n s7 s8 l9) fun s10 s11 l12=>appF 56 l3 ([.agg [.str s10,.str s11,.list true 15 l12]]) fun l13=>letF (IntKind.wrap .i64 (z4+1)) fun z14=>L111_1 n l1 z2 l13 z14 else some l3)
def F111:Nat->LD->Option LD
 | 0,_=>none
 | n+1,l1=>
  lenF l1 fun z2=>L111_1 n l1 z2 ([]:LD) (0:Int)
def F110:Nat->Int->BA->BA->LD->Int->BA->LD->Int->BA->LD->LD->LD->LD->LD->Int->Option (Int×BA×BA×LD×Int×BA×LD×Int×BA×LD×LD×LD×LD×LD)
 | 0,_,_,_,_,_,_,_,_,_,_,_,_,_,_,_=>none
 | n+1,z1,s2,s3,l4,z5,s6,l7,z8,s9,l10,l11,l12,l13,l14,z15=>
  bO1 (F105 n l4) fun l16=>bO3 (F102 n z5 s6 l7) fun z17 s18 l19=>bO2 (F104 n s9 l10) fun s20 l21=>bO1 (F107 n l11) fun l22=>bO1 (F109 n l12) fun l23=>bO1 (F109 n l13) fun l24=>bO1 (F111 n l14) fun l25=>bO0 (F58 n z15) (some (z1,s2,s3,l16,z17,s18,l19,z8,s20,l21,l22,l23,l24,l25))
def L109_1:Nat->LD->Int->LD->Int->Option LD
 | 0,_,_,_,_=>none
 | n+1,l1,z2,l3,z4=>
  (if z4<z2 then L109_2 n l1 z2 l3 z4 true else L109_2 n l1 z2 l3 z4 false)
def L109_2:Nat->LD->Int->LD->Int->Bool->Option LD
 | 0,_,_,_,_,_=>none
 | n+1,l1,z2,l3,z4,b5=>
  (if b5=true then getF l1 z4 fun x6=>ds_t50 x6 fun z7 s8 s9 l10 z11 s12 l13 z14 s15 l16 l17 l18 l19 l20 z21=>bO14 (F110 n z7 s8 s9 l10 z11 s12 l13 z14 s15 l16 l17 l18 l19 l20 z21) fun z22 s23 s24 l25 z26 s27 l28 z29 s30 l31 l32 l33 l34 l35=>appF 264 l3 ([.agg [.int .u8 z22,.str s23,.str s24,.list false 1 l25,.int .u8 z26,.str s27,.list true 3 l28,.int .i64 z29,.str s30,.list false 1 l31,.list true 8 l32,.list true 15 l33,.list true 15 l34,.list true 3 l35,.int .i64 0]]) fun l36=>letF (IntKind.wrap .i64 (z4+1)) fun z37=>L109_1 n l1 z2 l36 z37 else some l3)
def F109:Nat->LD->Option LD
 | 0,_=>none
 | n+1,l1=>
  lenF l1 fun z2=>L109_1 n l1 z2 ([]:LD) (0:Int)
end
theorem G108 (n:Nat):(∀⦃s1 s2 l3 r1 r2 r3⦄,F108 n s1 s2 l3=some (r1,r2,r3)->
    Trip Tryz.prog inv 108 [.d (.agg [.str s1,.str s2,.list true 15 l3]),.c (.ptr (.ext 0) 0)] [.cells [.fn 110 [.ext 1,.ext 2,.ext 3,.ext 0,.ext 5,.ext 4]],.cells [.fn 102 [.ext 1]],.cells [.fn 104 []],.cells [.fn 106 [.ext 2,.ext 3,.ext 4]],.cells [.fn 58 []],.cells [.fn 108 [.ext 0]]] (.v (.d (.agg [.str r1,.str r2,.list true 15 r3]))) [.cells [.fn 110 [.ext 1,.ext 2,.ext 3,.ext 0,.ext 5,.ext 4]],.cells [.fn 102 [.ext 1]],.cells [.fn 104 []],.cells [.fn 106 [.ext 2,.ext 3,.ext 4]],.cells [.fn 58 []],.cells [.fn 108 [.ext 0]]] [])/\
    (∀⦃l1 r1⦄,F111 n l1=some r1->
    Trip Tryz.prog inv 111 [.d (.list true 3 l1),.c (.fn 108 [.ext 0])] [.cells [.fn 110 [.ext 1,.ext 2,.ext 3,.ext 0,.ext 5,.ext 4]],.cells [.fn 102 [.ext 1]],.cells [.fn 104 []],.cells [.fn 106 [.ext 2,.ext 3,.ext 4]],.cells [.fn 58 []],.cells [.fn 108 [.ext 0]]] (.v (.d (.list true 3 r1))) [.cells [.fn 110 [.ext 1,.ext 2,.ext 3,.ext 0,.ext 5,.ext 4]],.cells [.fn 102 [.ext 1]],.cells [.fn 104 []],.cells [.fn 106 [.ext 2,.ext 3,.ext 4]],.cells [.fn 58 []],.cells [.fn 108 [.ext 0]]] [])/\
    (∀⦃z1 s2 s3 l4 z5 s6 l7 z8 s9 l10 l11 l12 l13 l14 z15 r1 r2 r3 r4 r5 r6 r7 r8 r9 r10 r11 r12 r13 r14⦄,F110 n z1 s2 s3 l4 z5 s6 l7 z8 s9 l10 l11 l12 l13 l14 z15=some (r1,r2,r3,r4,r5,r6,r7,r8,r9,r10,r11,r12,r13,r14)->
    Trip Tryz.prog inv 110 [.d (.agg [.int .u8 z1,.str s2,.str s3,.list false 1 l4,.int .u8 z5,.str s6,.list true 3 l7,.int .i64 z8,.str s9,.list false 1 l10,.list true 8 l11,.list true 15 l12,.list true 15 l13,.list true 3 l14,.int .i64 z15]),.c (.ptr (.ext 0) 0),.c (.ptr (.ext 1) 0),.c (.ptr (.ext 2) 0),.c (.ptr (.ext 4) 0),.c (.ptr (.ext 5) 0),.c (.ptr (.ext 3) 0)] [.cells [.fn 102 [.ext 0]],.cells [.fn 104 []],.cells [.fn 106 [.ext 1,.ext 2,.ext 3]],.cells [.fn 58 []],.cells [.fn 110 [.ext 0,.ext 1,.ext 2,.ext 4,.ext 5,.ext 3]],.cells [.fn 108 [.ext 4]]] (.v (.d (.agg [.int .u8 r1,.str r2,.str r3,.list false 1 r4,.int .u8 r5,.str r6,.list true 3 r7,.int .i64 r8,.str r9,.list false 1 r10,.list true 8 r11,.list true 15 r12,.list true 15 r13,.list true 3 r14,.int .i64 0]))) [.cells [.fn 102 [.ext 0]],.cells [.fn 104 []],.cells [.fn 106 [.ext 1,.ext 2,.ext 3]],.cells [.fn 58 []],.cells [.fn 110 [.ext 0,.ext 1,.ext 2,.ext 4,.ext 5,.ext 3]],.cells [.fn 108 [.ext 4]]] [])/\
    (∀⦃l1 r1⦄,F109 n l1=some r1->
    Trip Tryz.prog inv 109 [.d (.list true 15 l1),.c (.fn 110 [.ext 0,.ext 1,.ext 2,.ext 4,.ext 5,.ext 3])] [.cells [.fn 102 [.ext 0]],.cells [.fn 104 []],.cells [.fn 106 [.ext 1,.ext 2,.ext 3]],.cells [.fn 58 []],.cells [.fn 110 [.ext 0,.ext 1,.ext 2,.ext 4,.ext 5,.ext 3]],.cells [.fn 108 [.ext 4]]] (.v (.d (.list true 15 r1))) [.cells [.fn 102 [.ext 0]],.cells [.fn 104 []],.cells [.fn 106 [.ext 1,.ext 2,.ext 3]],.cells [.fn 58 []],.cells [.fn 110 [.ext 0,.ext 1,.ext 2,.ext 4,.ext 5,.ext 3]],.cells [.fn 108 [.ext 4]]] []):=by
 induction n using Nat.strongRecOn with | _ n ih=>
 obtain _ | n:=n
 ·refine⟨?_,?_,?_,?_⟩
  ·intro s1 s2 l3 r1 r2 r3 h
   cases (show (none:Option _)=some _ from h)
  ·intro l1 r1 h
   cases (show (none:Option _)=some _ from h)
  ·intro z1 s2 s3 l4 z5 s6 l7 z8 s9 l10 l11 l12 l13 l14 z15 r1 r2 r3 r4 r5 r6 r7 r8 r9 r10 r11 r12 r13 r14 h
   cases (show (none:Option _)=some _ from h)
  intro l1 r1 h
  cases (show (none:Option _)=some _ from h)
 refine⟨?_,?_,?_,?_⟩
 ·intro s1 s2 l3 r1 r2 r3 h
  rw[F108]at h
  refine Trip.of tab_ok tab_one fol Tryz.func108 rfl (by kernel_rfl) rfl rfl rfl (fun M hM hI=>?_)
  try cbv
  refine seq_go ?_
  try cbv
  refine seq_go ?_
  try cbv
  replace h:=bO1_inv h
  obtain⟨l4,hr,h⟩:=h
  refine call_go rfl rfl ?_
  try cbv
  refine call_with hM hI [.ext 1,.ext 2,.ext 3,.ext 4,.ext 0,.ext 5] ((ih _ (by omega)).2.2.2 hr) rfl (by simp) ⟨rfl,⟨rfl,⟨rfl,⟨rfl,⟨rfl,⟨rfl,trivial⟩⟩⟩⟩⟩⟩ ⟨trivial,⟨trivial,⟨trivial,⟨trivial,⟨trivial,⟨trivial,trivial⟩⟩⟩⟩⟩⟩ (by simp) ?_
  clear hr
  try cbv
  refine seq_go ?_
  try cbv
  obtain⟨rfl,rfl,rfl⟩:=inj3 h
  refine fin_go ?_
  try cbv
  exact⟨[],rfl,rfl,⟨rfl,⟨rfl,⟨rfl,⟨rfl,⟨rfl,⟨rfl,trivial⟩⟩⟩⟩⟩⟩,trivial,trivial⟩
 ·intro l1 r1 h
  rw[F111]at h
  refine Trip.of tab_ok tab_one fol Tryz.func111 rfl (by kernel_rfl) rfl rfl rfl (fun M hM hI=>?_)
  try cbv
  refine seq_go ?_
  try cbv
  refine seq_go ?_
  try cbv
  refine seq_go ?_
  try cbv
  refine seq_go ?_
  try cbv
  replace h:=lenF_inv M h
  obtain⟨z2,hz,h⟩:=h
  refine⟨z2,hz,?_⟩
  clear hz
  try cbv
  refine loop_invT (T:=Nat×LD×Int) [.slot 5 true 3 95] [1,4,5,8,9,10] [.ext 0,.ext 1,.ext 2,.ext 3,.ext 4,.ext 5,.loc 160] 192 (fun t=>⟨[(1,.v (.c (.fn 108 [.ext 0]))),(4,.v (.c (.nils true 3))),(5,.v (.c (.lst (.loc 160) true 3 t.2.1))),sT 8 3 l1,sI 9 z2,sI 10 t.2.2],[(.ext 0,.cells [.fn 110 [.ext 1,.ext 2,.ext 3,.ext 0,.ext 5,.ext 4]]),(.ext 1,.cells [.fn 102 [.ext 1]]),(.ext 2,.cells [.fn 104 []]),(.ext 3,.cells [.fn 106 [.ext 2,.ext 3,.ext 4]]),(.ext 4,.cells [.fn 58 []]),(.ext 5,.cells [.fn 108 [.ext 0]]),(.loc 160,.tok t.2.1.length 3 95)],192⟩)
    (fun t=>t.1<=n/\L111_1 t.1 l1 z2 t.2.1 t.2.2=some r1) (fun t=>t.1) (n,(([]:LD),(0:Int))) ⟨Nat.le_refl _,h⟩ (by cbv) ?_
  clear h
  rintro⟨m1,l3,z4⟩ ⟨hm1,h⟩
  replace hm1:m1<=n:=hm1
  obtain _ | m1:=m1
  ·replace h:L111_1 0 l1 z2 l3 z4=some r1:=h
   rw[L111_1]at h
   cases h
  replace h:L111_1 (m1+1) l1 z2 l3 z4=some r1:=h
  rw[L111_1]at h
  try cbv
  refine seq_joinB 11 [1,4,5,8,9,10,11] [.ext 0,.ext 1,.ext 2,.ext 3,.ext 4,.ext 5,.loc 160] 224 (fun m b=>m<=m1/\L111_2 m l1 z2 l3 z4 b=some r1) ?_ ?_
  ·try cbv
   refine splitL (fun e=>?_) (fun e=>?_)
   ·replace h:=ite_t e h
    clear e
    try cbv
    exact join_next (m1,true) [1,4,5,8,9,10,11] [.ext 0,.ext 1,.ext 2,.ext 3,.ext 4,.ext 5,.loc 160] 224 ⟨by omega,h⟩ (by cbv)
   replace h:=ite_f (Int.not_lt.2 e) h
   clear e
   try cbv
   exact join_next (m1,false) [1,4,5,8,9,10,11] [.ext 0,.ext 1,.ext 2,.ext 3,.ext 4,.ext 5,.loc 160] 224 ⟨by omega,h⟩ (by cbv)
  clear h
  rintro⟨m2,b5⟩ ⟨hm2,h⟩
  try cbv
  replace hm2:m2<=m1:=hm2
  obtain _ | m2:=m2
  ·replace h:L111_2 0 l1 z2 l3 z4 b5=some r1:=h
   rw[L111_2]at h
   cases h
  replace h:L111_2 (m2+1) l1 z2 l3 z4 b5=some r1:=h
  rw[L111_2]at h
  try cbv
  refine seq_go ?_
  try cbv
  cases b5
  ·replace h:=itF h
   try cbv
   refine seq_go ?_
   try cbv
   obtain rfl:=Option.some.inj h
   refine fin_go ?_
   try cbv
   exact⟨[],rfl,rfl,⟨rfl,⟨rfl,⟨rfl,⟨rfl,⟨rfl,⟨rfl,trivial⟩⟩⟩⟩⟩⟩,trivial,trivial⟩
  replace h:=itT h
  try cbv
  refine seq_go ?_
  try cbv
  refine seq_go ?_
  try cbv
  replace h:=getF_inv h
  obtain⟨x6,⟨hx0,hx⟩,h⟩:=h
  refine⟨x6,hx0,hx,?_⟩
  clear hx0 hx
  replace h:=ds_t95_inv h
  obtain⟨s7,s8,l9,rfl,h⟩:=h
  try cbv
  replace h:=bO3_inv h
  obtain⟨s10,s11,l12,hr,h⟩:=h
  refine call_go rfl rfl ?_
  try cbv
  refine call_with hM hI [.ext 0,.ext 1,.ext 2,.ext 3,.ext 4,.ext 5] ((ih _ (by omega)).1 hr) rfl (by simp) ⟨rfl,⟨rfl,⟨rfl,⟨rfl,⟨rfl,⟨rfl,trivial⟩⟩⟩⟩⟩⟩ ⟨trivial,⟨trivial,⟨trivial,⟨trivial,⟨trivial,⟨trivial,trivial⟩⟩⟩⟩⟩⟩ (by simp) ?_
  clear hr
  try cbv
  refine⟨false,?_⟩
  try cbv
  refine⟨true,?_⟩
  try cbv
  replace h:=appF_inv h
  obtain⟨l13,hb,hz,h⟩:=h
  refine⟨false,?_⟩
  try cbv
  first | refine⟨rfl,(M.lock_iff _).2 hb,l13,hz,?_⟩ | refine⟨(M.lock_iff _).2 hb,l13,hz,?_⟩
  clear hb hz
  try cbv
  replace h:=letF_inv h
  obtain⟨z14,hz,h⟩:=h
  refine⟨z14,hz,?_⟩
  clear hz
  try cbv
  exact loop_next (m2,(l13,z14)) [1,4,5,8,9,10] [.ext 0,.ext 1,.ext 2,.ext 3,.ext 4,.ext 5,.loc 160] 192 ⟨by omega,h⟩ (Nat.lt_succ_of_le (by omega)) (by cbv)
 ·intro z1 s2 s3 l4 z5 s6 l7 z8 s9 l10 l11 l12 l13 l14 z15 r1 r2 r3 r4 r5 r6 r7 r8 r9 r10 r11 r12 r13 r14 h
  rw[F110]at h
  refine Trip.of tab_ok tab_one fol Tryz.func110 rfl (by kernel_rfl) rfl rfl rfl (fun M hM hI=>?_)
  try cbv
  refine seq_go ?_
  try cbv
  refine seq_go ?_
  try cbv
  replace h:=bO1_inv h
  obtain⟨l16,hr,h⟩:=h
  first | refine .inr (.inl ⟨[],?_⟩) | refine .inl ⟨[],?_⟩
  try cbv
  refine call_pure hM hI (T105 _ hr) rfl ?_
  clear hr
  try cbv
  replace h:=bO3_inv h
  obtain⟨z17,s18,l19,hr,h⟩:=h
  first | refine .inr (.inr ⟨[.ext 0],?_⟩) | refine .inr ⟨[.ext 0],?_⟩
  try cbv
  refine call_with hM hI [.ext 0] (T102 _ hr) rfl (by simp) ⟨rfl,trivial⟩ ⟨trivial,trivial⟩ (by simp) ?_
  try cbv
  first | refine⟨(rfl:(_:Option AObj)=_),?_⟩ | skip
  try cbv
  clear hr
  try cbv
  replace h:=bO2_inv h
  obtain⟨s20,l21,hr,h⟩:=h
  first | refine .inr (.inl ⟨[],?_⟩) | refine .inl ⟨[],?_⟩
  try cbv
  refine call_pure hM hI (T104 _ hr) rfl ?_
  clear hr
  try cbv
  replace h:=bO1_inv h
  obtain⟨l22,hr,h⟩:=h
  first | refine .inr (.inr ⟨[.ext 1,.ext 2,.ext 3],?_⟩) | refine .inr ⟨[.ext 1,.ext 2,.ext 3],?_⟩
  try cbv
  refine call_with hM hI [.ext 1,.ext 2,.ext 3] (T107 _ hr) rfl (by simp) ⟨rfl,⟨rfl,⟨rfl,trivial⟩⟩⟩ ⟨trivial,⟨trivial,⟨trivial,trivial⟩⟩⟩ (by simp) ?_
  try cbv
  first | refine⟨(rfl:(_:Option AObj)=_),?_⟩ | skip
  first | refine⟨(rfl:(_:Option AObj)=_),?_⟩ | skip
  first | refine⟨(rfl:(_:Option AObj)=_),?_⟩ | skip
  try cbv
  clear hr
  try cbv
  refine drawn ?_ ?_
  ·show _=true
   kernel_rfl
  try cbv
  refine seq_go ?_
  try cbv
  replace h:=bO1_inv h
  obtain⟨l23,hr,h⟩:=h
  first | refine .inr (.inr ⟨[.ext 0,.ext 1,.ext 2,.ext 3,.ext 4,.ext 5],?_⟩) | refine .inr ⟨[.ext 0,.ext 1,.ext 2,.ext 3,.ext 4,.ext 5],?_⟩
  try cbv
  refine call_with hM hI [.ext 0,.ext 1,.ext 2,.ext 3,.ext 4,.ext 5] ((ih _ (by omega)).2.2.2 hr) rfl (by simp) ⟨rfl,⟨rfl,⟨rfl,⟨rfl,⟨rfl,⟨rfl,trivial⟩⟩⟩⟩⟩⟩ ⟨trivial,⟨trivial,⟨trivial,⟨trivial,⟨trivial,⟨trivial,trivial⟩⟩⟩⟩⟩⟩ (by simp) ?_
  try cbv
  first | refine⟨(rfl:(_:Option AObj)=_),?_⟩ | skip
  first | refine⟨(rfl:(_:Option AObj)=_),?_⟩ | skip
  first | refine⟨(rfl:(_:Option AObj)=_),?_⟩ | skip
  first | refine⟨(rfl:(_:Option AObj)=_),?_⟩ | skip
  first | refine⟨(rfl:(_:Option AObj)=_),?_⟩ | skip
  first | refine⟨(rfl:(_:Option AObj)=_),?_⟩ | skip
  try cbv
  clear hr
  try cbv
  replace h:=bO1_inv h
  obtain⟨l24,hr,h⟩:=h
  first | refine .inr (.inr ⟨[.ext 0,.ext 1,.ext 2,.ext 3,.ext 4,.ext 5],?_⟩) | refine .inr ⟨[.ext 0,.ext 1,.ext 2,.ext 3,.ext 4,.ext 5],?_⟩
  try cbv
  refine call_with hM hI [.ext 0,.ext 1,.ext 2,.ext 3,.ext 4,.ext 5] ((ih _ (by omega)).2.2.2 hr) rfl (by simp) ⟨rfl,⟨rfl,⟨rfl,⟨rfl,⟨rfl,⟨rfl,trivial⟩⟩⟩⟩⟩⟩ ⟨trivial,⟨trivial,⟨trivial,⟨trivial,⟨trivial,⟨trivial,trivial⟩⟩⟩⟩⟩⟩ (by simp) ?_
  try cbv
  first | refine⟨(rfl:(_:Option AObj)=_),?_⟩ | skip
  first | refine⟨(rfl:(_:Option AObj)=_),?_⟩ | skip
  first | refine⟨(rfl:(_:Option AObj)=_),?_⟩ | skip
  first | refine⟨(rfl:(_:Option AObj)=_),?_⟩ | skip
  first | refine⟨(rfl:(_:Option AObj)=_),?_⟩ | skip
  first | refine⟨(rfl:(_:Option AObj)=_),?_⟩ | skip
  try cbv
  clear hr
  try cbv
  replace h:=bO1_inv h
  obtain⟨l25,hr,h⟩:=h
  first | refine .inr (.inr ⟨[.ext 4,.ext 0,.ext 1,.ext 2,.ext 3,.ext 5],?_⟩) | refine .inr ⟨[.ext 4,.ext 0,.ext 1,.ext 2,.ext 3,.ext 5],?_⟩
  try cbv
  refine call_with hM hI [.ext 4,.ext 0,.ext 1,.ext 2,.ext 3,.ext 5] ((ih _ (by omega)).2.1 hr) rfl (by simp) ⟨rfl,⟨rfl,⟨rfl,⟨rfl,⟨rfl,⟨rfl,trivial⟩⟩⟩⟩⟩⟩ ⟨trivial,⟨trivial,⟨trivial,⟨trivial,⟨trivial,⟨trivial,trivial⟩⟩⟩⟩⟩⟩ (by simp) ?_
  try cbv
  first | refine⟨(rfl:(_:Option AObj)=_),?_⟩ | skip
  first | refine⟨(rfl:(_:Option AObj)=_),?_⟩ | skip
  first | refine⟨(rfl:(_:Option AObj)=_),?_⟩ | skip
  first | refine⟨(rfl:(_:Option AObj)=_),?_⟩ | skip
  first | refine⟨(rfl:(_:Option AObj)=_),?_⟩ | skip
  first | refine⟨(rfl:(_:Option AObj)=_),?_⟩ | skip
  try cbv
  clear hr
  try cbv
  replace h:=bO0_inv h
  obtain⟨hr,h⟩:=h
  first | refine .inr (.inl ⟨[],?_⟩) | refine .inl ⟨[],?_⟩
  try cbv
  refine call_pure hM hI (T58 _ hr) rfl ?_
  clear hr
  try cbv
  refine drawn ?_ ?_
  ·show _=true
   kernel_rfl
  try cbv
  refine seq_go ?_
  try cbv
  obtain⟨rfl,rfl,rfl,rfl,rfl,rfl,rfl,rfl,rfl,rfl,rfl,rfl,rfl,rfl⟩:=inj14 h
  refine fin_go ?_
  try cbv
  exact⟨[],rfl,rfl,⟨rfl,⟨rfl,⟨rfl,⟨rfl,⟨rfl,⟨rfl,trivial⟩⟩⟩⟩⟩⟩,trivial,trivial⟩
 intro l1 r1 h
 rw[F109]at h
 refine Trip.of tab_ok tab_one fol Tryz.func109 rfl (by kernel_rfl) rfl rfl rfl (fun M hM hI=>?_)
 try cbv
 refine seq_go ?_
 try cbv
 refine seq_go ?_
 try cbv
 refine seq_go ?_
 try cbv
 refine seq_go ?_
 try cbv
 replace h:=lenF_inv M h
 obtain⟨z2,hz,h⟩:=h
 refine⟨z2,hz,?_⟩
 clear hz
 try cbv
 refine loop_invT (T:=Nat×LD×Int) [.slot 5 true 15 50] [1,4,5,8,9,10] [.ext 0,.ext 1,.ext 2,.ext 3,.ext 4,.ext 5,.loc 160] 192 (fun t=>⟨[(1,.v (.c (.fn 110 [.ext 0,.ext 1,.ext 2,.ext 4,.ext 5,.ext 3]))),(4,.v (.c (.nils true 15))),(5,.v (.c (.lst (.loc 160) true 15 t.2.1))),sT 8 15 l1,sI 9 z2,sI 10 t.2.2],[(.ext 0,.cells [.fn 102 [.ext 0]]),(.ext 1,.cells [.fn 104 []]),(.ext 2,.cells [.fn 106 [.ext 1,.ext 2,.ext 3]]),(.ext 3,.cells [.fn 58 []]),(.ext 4,.cells [.fn 110 [.ext 0,.ext 1,.ext 2,.ext 4,.ext 5,.ext 3]]),(.ext 5,.cells [.fn 108 [.ext 4]]),(.loc 160,.tok t.2.1.length 15 50)],192⟩)
   (fun t=>t.1<=n/\L109_1 t.1 l1 z2 t.2.1 t.2.2=some r1) (fun t=>t.1) (n,(([]:LD),(0:Int))) ⟨Nat.le_refl _,h⟩ (by cbv) ?_
 clear h
 rintro⟨m1,l3,z4⟩ ⟨hm1,h⟩
 replace hm1:m1<=n:=hm1
 obtain _ | m1:=m1
 ·replace h:L109_1 0 l1 z2 l3 z4=some r1:=h
  rw[L109_1]at h
  cases h
 replace h:L109_1 (m1+1) l1 z2 l3 z4=some r1:=h
 rw[L109_1]at h
 try cbv
 refine seq_joinB 11 [1,4,5,8,9,10,11] [.ext 0,.ext 1,.ext 2,.ext 3,.ext 4,.ext 5,.loc 160] 224 (fun m b=>m<=m1/\L109_2 m l1 z2 l3 z4 b=some r1) ?_ ?_
 ·try cbv
  refine splitL (fun e=>?_) (fun e=>?_)
  ·replace h:=ite_t e h
   clear e
   try cbv
   exact join_next (m1,true) [1,4,5,8,9,10,11] [.ext 0,.ext 1,.ext 2,.ext 3,.ext 4,.ext 5,.loc 160] 224 ⟨by omega,h⟩ (by cbv)
  replace h:=ite_f (Int.not_lt.2 e) h
  clear e
  try cbv
  exact join_next (m1,false) [1,4,5,8,9,10,11] [.ext 0,.ext 1,.ext 2,.ext 3,.ext 4,.ext 5,.loc 160] 224 ⟨by omega,h⟩ (by cbv)
 clear h
 rintro⟨m2,b5⟩ ⟨hm2,h⟩
 try cbv
 replace hm2:m2<=m1:=hm2
 obtain _ | m2:=m2
 ·replace h:L109_2 0 l1 z2 l3 z4 b5=some r1:=h
  rw[L109_2]at h
  cases h
 replace h:L109_2 (m2+1) l1 z2 l3 z4 b5=some r1:=h
 rw[L109_2]at h
 try cbv
 refine seq_go ?_
 try cbv
 cases b5
 ·replace h:=itF h
  try cbv
  refine seq_go ?_
  try cbv
  obtain rfl:=Option.some.inj h
  refine fin_go ?_
  try cbv
  exact⟨[],rfl,rfl,⟨rfl,⟨rfl,⟨rfl,⟨rfl,⟨rfl,⟨rfl,trivial⟩⟩⟩⟩⟩⟩,trivial,trivial⟩
 replace h:=itT h
 try cbv
 refine seq_go ?_
 try cbv
 refine seq_go ?_
 try cbv
 replace h:=getF_inv h
 obtain⟨x6,⟨hx0,hx⟩,h⟩:=h
 refine⟨x6,hx0,hx,?_⟩
 clear hx0 hx
 replace h:=ds_t50_inv h
 obtain⟨z7,s8,s9,l10,z11,s12,l13,z14,s15,l16,l17,l18,l19,l20,z21,rfl,h⟩:=h
 try cbv
 replace h:=bO14_inv h
 obtain⟨z22,s23,s24,l25,z26,s27,l28,z29,s30,l31,l32,l33,l34,l35,hr,h⟩:=h
 refine call_go rfl rfl ?_
 try cbv
 refine call_with hM hI [.ext 0,.ext 1,.ext 2,.ext 3,.ext 4,.ext 5] ((ih _ (by omega)).2.2.1 hr) rfl (by simp) ⟨rfl,⟨rfl,⟨rfl,⟨rfl,⟨rfl,⟨rfl,trivial⟩⟩⟩⟩⟩⟩ ⟨trivial,⟨trivial,⟨trivial,⟨trivial,⟨trivial,⟨trivial,trivial⟩⟩⟩⟩⟩⟩ (by simp) ?_
 clear hr
 try cbv
 refine⟨false,?_⟩
 try cbv
 refine⟨true,?_⟩
 try cbv
 replace h:=appF_inv h
 obtain⟨l36,hb,hz,h⟩:=h
 refine⟨false,?_⟩
 try cbv
 first | refine⟨rfl,(M.lock_iff _).2 hb,l36,hz,?_⟩ | refine⟨(M.lock_iff _).2 hb,l36,hz,?_⟩
 clear hb hz
 try cbv
 replace h:=letF_inv h
 obtain⟨z37,hz,h⟩:=h
 refine⟨z37,hz,?_⟩
 clear hz
 try cbv
 exact loop_next (m2,(l36,z37)) [1,4,5,8,9,10] [.ext 0,.ext 1,.ext 2,.ext 3,.ext 4,.ext 5,.loc 160] 192 ⟨by omega,h⟩ (Nat.lt_succ_of_le (by omega)) (by cbv)
theorem T109 (n:Nat):∀⦃l1 r1⦄,F109 n l1=some r1->
  Trip Tryz.prog inv 109 [.d (.list true 15 l1),.c (.fn 110 [.ext 0,.ext 1,.ext 2,.ext 4,.ext 5,.ext 3])] [.cells [.fn 102 [.ext 0]],.cells [.fn 104 []],.cells [.fn 106 [.ext 1,.ext 2,.ext 3]],.cells [.fn 58 []],.cells [.fn 110 [.ext 0,.ext 1,.ext 2,.ext 4,.ext 5,.ext 3]],.cells [.fn 108 [.ext 4]]] (.v (.d (.list true 15 r1))) [.cells [.fn 102 [.ext 0]],.cells [.fn 104 []],.cells [.fn 106 [.ext 1,.ext 2,.ext 3]],.cells [.fn 58 []],.cells [.fn 110 [.ext 0,.ext 1,.ext 2,.ext 4,.ext 5,.ext 3]],.cells [.fn 108 [.ext 4]]] []:=(G108 n).2.2.2
def F112 (n:Nat) (s1:BA) (z2:Int) (s3:BA) (l4:LD):Option (BA×Int×BA×LD):=
 bO3 (F102 n z2 s3 l4) fun z5 s6 l7=>some (s1,z5,s6,l7)
theorem T112 (n:Nat):∀⦃s1 z2 s3 l4 r1 r2 r3 r4⦄,F112 n s1 z2 s3 l4=some (r1,r2,r3,r4)->
    Trip Tryz.prog inv 112 [.d (.agg [.str s1,.int .u8 z2,.str s3,.list true 3 l4]),.c (.ptr (.ext 0) 0)] [.cells [.fn 102 [.ext 0]]] (.v (.d (.agg [.str r1,.int .u8 r2,.str r3,.list true 3 r4]))) [.cells [.fn 102 [.ext 0]]] []:=by
 intro s1 z2 s3 l4 r1 r2 r3 r4 h
 unfold F112 at h
 refine Trip.of tab_ok tab_one fol Tryz.func112 rfl (by kernel_rfl) rfl rfl rfl (fun M hM hI=>?_)
 try cbv
 refine seq_go ?_
 try cbv
 refine seq_go ?_
 try cbv
 replace h:=bO3_inv h
 obtain⟨z5,s6,l7,hr,h⟩:=h
 refine call_go rfl rfl ?_
 try cbv
 refine call_with hM hI [.ext 0] (T102 _ hr) rfl (by simp) ⟨rfl,trivial⟩ ⟨trivial,trivial⟩ (by simp) ?_
 clear hr
 try cbv
 refine seq_go ?_
 try cbv
 obtain⟨rfl,rfl,rfl,rfl⟩:=inj4 h
 refine fin_go ?_
 try cbv
 exact⟨[],rfl,rfl,⟨rfl,trivial⟩,trivial,trivial⟩
mutual
def L115_1:Nat->LD->Int->LD->Int->Option LD
 | 0,_,_,_,_=>none
 | n+1,l1,z2,l3,z4=>
  (if z4<z2 then L115_2 n l1 z2 l3 z4 true else L115_2 n l1 z2 l3 z4 false)
def L115_2:Nat->LD->Int->LD->Int->Bool->Option LD
 | 0,_,_,_,_,_=>none
 | n+1,l1,z2,l3,z4,b5=>
  (if b5=true then getF l1 z4 fun x6=>ds_t74 x6 fun s7 z8 s9 l10=>bO4 (F112 n s7 z8 s9 l10) fun s11 z12 s13 l14=>appF 64 l3 ([.agg [.str s11,.int .u8 z12,.str s13,.list true 3 l14]]) fun l15=>letF (IntKind.wrap .i64 (z4+1)) fun z16=>L115_1 n l1 z2 l15 z16 else some l3)
end
def F115 (n:Nat) (l1:LD):Option LD:=
 lenF l1 fun z2=>L115_1 n l1 z2 ([]:LD) (0:Int)
theorem T115 (n:Nat):∀⦃l1 r1⦄,F115 n l1=some r1->
    Trip Tryz.prog inv 115 [.d (.list true 4 l1),.c (.fn 112 [.ext 0])] [.cells [.fn 102 [.ext 0]]] (.v (.d (.list true 4 r1))) [.cells [.fn 102 [.ext 0]]] []:=by
 intro l1 r1 h
 unfold F115 at h
 refine Trip.of tab_ok tab_one fol Tryz.func115 rfl (by kernel_rfl) rfl rfl rfl (fun M hM hI=>?_)
 try cbv
 refine seq_go ?_
 try cbv
 refine seq_go ?_
 try cbv
 refine seq_go ?_
 try cbv
 refine seq_go ?_
 try cbv
 replace h:=lenF_inv M h
 obtain⟨z2,hz,h⟩:=h
 refine⟨z2,hz,?_⟩
 clear hz
 try cbv
 refine loop_invT (T:=Nat×LD×Int) [.slot 5 true 4 74] [1,4,5,8,9,10] [.ext 0,.loc 160] 192 (fun t=>⟨[(1,.v (.c (.fn 112 [.ext 0]))),(4,.v (.c (.nils true 4))),(5,.v (.c (.lst (.loc 160) true 4 t.2.1))),sT 8 4 l1,sI 9 z2,sI 10 t.2.2],[(.ext 0,.cells [.fn 102 [.ext 0]]),(.loc 160,.tok t.2.1.length 4 74)],192⟩)
   (fun t=>t.1<=n/\L115_1 t.1 l1 z2 t.2.1 t.2.2=some r1) (fun t=>t.1) (n,(([]:LD),(0:Int))) ⟨Nat.le_refl _,h⟩ (by cbv) ?_
 clear h
 rintro⟨m1,l3,z4⟩ ⟨hm1,h⟩
 replace hm1:m1<=n:=hm1
 obtain _ | m1:=m1
 ·replace h:L115_1 0 l1 z2 l3 z4=some r1:=h
  rw[L115_1]at h
  cases h
 replace h:L115_1 (m1+1) l1 z2 l3 z4=some r1:=h
 rw[L115_1]at h
 try cbv
 refine seq_joinB 11 [1,4,5,8,9,10,11] [.ext 0,.loc 160] 224 (fun m b=>m<=m1/\L115_2 m l1 z2 l3 z4 b=some r1) ?_ ?_
 ·try cbv
  refine splitL (fun e=>?_) (fun e=>?_)
  ·replace h:=ite_t e h
   clear e
   try cbv
   exact join_next (m1,true) [1,4,5,8,9,10,11] [.ext 0,.loc 160] 224 ⟨by omega,h⟩ (by cbv)
  replace h:=ite_f (Int.not_lt.2 e) h
  clear e
  try cbv
  exact join_next (m1,false) [1,4,5,8,9,10,11] [.ext 0,.loc 160] 224 ⟨by omega,h⟩ (by cbv)
 clear h
 rintro⟨m2,b5⟩ ⟨hm2,h⟩
 try cbv
 replace hm2:m2<=m1:=hm2
 obtain _ | m2:=m2
 ·replace h:L115_2 0 l1 z2 l3 z4 b5=some r1:=h
  rw[L115_2]at h
  cases h
 replace h:L115_2 (m2+1) l1 z2 l3 z4 b5=some r1:=h
 rw[L115_2]at h
 try cbv
 refine seq_go ?_
 try cbv
 cases b5
 ·replace h:=itF h
  try cbv
  refine seq_go ?_
  try cbv
  obtain rfl:=Option.some.inj h
  refine fin_go ?_
  try cbv
  exact⟨[],rfl,rfl,⟨rfl,trivial⟩,trivial,trivial⟩
 replace h:=itT h
 try cbv
 refine seq_go ?_
 try cbv
 refine seq_go ?_
 try cbv
 replace h:=getF_inv h
 obtain⟨x6,⟨hx0,hx⟩,h⟩:=h
 refine⟨x6,hx0,hx,?_⟩
 clear hx0 hx
 replace h:=ds_t74_inv h
 obtain⟨s7,z8,s9,l10,rfl,h⟩:=h
 try cbv
 replace h:=bO4_inv h
 obtain⟨s11,z12,s13,l14,hr,h⟩:=h
 refine call_go rfl rfl ?_
 try cbv
 refine call_with hM hI [.ext 0] (T112 _ hr) rfl (by simp) ⟨rfl,trivial⟩ ⟨trivial,trivial⟩ (by simp) ?_
 clear hr
 try cbv
 refine⟨false,?_⟩
 try cbv
 refine⟨true,?_⟩
 try cbv
 replace h:=appF_inv h
 obtain⟨l15,hb,hz,h⟩:=h
 refine⟨false,?_⟩
 try cbv
 first | refine⟨rfl,(M.lock_iff _).2 hb,l15,hz,?_⟩ | refine⟨(M.lock_iff _).2 hb,l15,hz,?_⟩
 clear hb hz
 try cbv
 replace h:=letF_inv h
 obtain⟨z16,hz,h⟩:=h
 refine⟨z16,hz,?_⟩
 clear hz
 try cbv
 exact loop_next (m2,(l15,z16)) [1,4,5,8,9,10] [.ext 0,.loc 160] 192 ⟨by omega,h⟩ (Nat.lt_succ_of_le (by omega)) (by cbv)
def F114 (n:Nat) (z1:Int) (s2:BA) (l3:LD) (z4:Int) (s5:BA) (l6:LD) (l7:LD) (z8:Int) (z9:Int) (s10:BA) (s11:BA) (s12:BA) (l13:LD) (l14:LD) (z15:Int) (z16:Int):Option (Int×BA×LD×Int×BA×LD×LD×Int×Int×BA×BA×BA×LD×LD):=
 bO1 (F115 n l3) fun l17=>bO3 (F102 n z4 s5 l6) fun z18 s19 l20=>bO1 (F109 n l7) fun l21=>bO7 (F106 n z8 z9 s10 s11 s12 l13 l14 z15) fun z22 z23 s24 s25 s26 l27 l28=>bO0 (F58 n z16) (some (z1,s2,l17,z18,s19,l20,l21,z22,z23,s24,s25,s26,l27,l28))
theorem T114 (n:Nat):∀⦃z1 s2 l3 z4 s5 l6 l7 z8 z9 s10 s11 s12 l13 l14 z15 z16 r1 r2 r3 r4 r5 r6 r7 r8 r9 r10 r11 r12 r13 r14⦄,F114 n z1 s2 l3 z4 s5 l6 l7 z8 z9 s10 s11 s12 l13 l14 z15 z16=some (r1,r2,r3,r4,r5,r6,r7,r8,r9,r10,r11,r12,r13,r14)->
    Trip Tryz.prog inv 114 [.d (.agg [.int .u8 z1,.str s2,.list true 4 l3,.int .u8 z4,.str s5,.list true 3 l6,.list true 15 l7,.int .u8 z8,.int .i64 z9,.str s10,.str s11,.str s12,.list false 1 l13,.list true 8 l14,.int .i64 z15,.int .i64 z16]),.c (.ptr (.ext 0) 0),.c (.ptr (.ext 1) 0),.c (.ptr (.ext 2) 0),.c (.ptr (.ext 4) 0),.c (.ptr (.ext 5) 0)] [.cells [.fn 112 [.ext 1]],.cells [.fn 102 [.ext 1]],.cells [.fn 110 [.ext 1,.ext 3,.ext 4,.ext 2,.ext 6,.ext 5]],.cells [.fn 104 []],.cells [.fn 106 [.ext 3,.ext 4,.ext 5]],.cells [.fn 58 []],.cells [.fn 108 [.ext 2]]] (.v (.d (.agg [.int .u8 r1,.str r2,.list true 4 r3,.int .u8 r4,.str r5,.list true 3 r6,.list true 15 r7,.int .u8 r8,.int .i64 r9,.str r10,.str r11,.str r12,.list false 1 r13,.list true 8 r14,.int .i64 0,.int .i64 0]))) [.cells [.fn 112 [.ext 1]],.cells [.fn 102 [.ext 1]],.cells [.fn 110 [.ext 1,.ext 3,.ext 4,.ext 2,.ext 6,.ext 5]],.cells [.fn 104 []],.cells [.fn 106 [.ext 3,.ext 4,.ext 5]],.cells [.fn 58 []],.cells [.fn 108 [.ext 2]]] []:=by
 intro z1 s2 l3 z4 s5 l6 l7 z8 z9 s10 s11 s12 l13 l14 z15 z16 r1 r2 r3 r4 r5 r6 r7 r8 r9 r10 r11 r12 r13 r14 h
 unfold F114 at h
 refine Trip.of tab_ok tab_one fol Tryz.func114 rfl (by kernel_rfl) rfl rfl rfl (fun M hM hI=>?_)
 try cbv
 refine seq_go ?_
 try cbv
 refine seq_go ?_
 try cbv
 replace h:=bO1_inv h
 obtain⟨l17,hr,h⟩:=h
 first | refine .inr (.inr ⟨[.ext 1],?_⟩) | refine .inr ⟨[.ext 1],?_⟩
 try cbv
 refine call_with hM hI [.ext 1] (T115 _ hr) rfl (by simp) ⟨rfl,trivial⟩ ⟨trivial,trivial⟩ (by simp) ?_
 try cbv
 first | refine⟨(rfl:(_:Option AObj)=_),?_⟩ | skip
 try cbv
 clear hr
 try cbv
 replace h:=bO3_inv h
 obtain⟨z18,s19,l20,hr,h⟩:=h
 first | refine .inr (.inr ⟨[.ext 1],?_⟩) | refine .inr ⟨[.ext 1],?_⟩
 try cbv
 refine call_with hM hI [.ext 1] (T102 _ hr) rfl (by simp) ⟨rfl,trivial⟩ ⟨trivial,trivial⟩ (by simp) ?_
 try cbv
 first | refine⟨(rfl:(_:Option AObj)=_),?_⟩ | skip
 try cbv
 clear hr
 try cbv
 replace h:=bO1_inv h
 obtain⟨l21,hr,h⟩:=h
 first | refine .inr (.inr ⟨[.ext 1,.ext 3,.ext 4,.ext 5,.ext 2,.ext 6],?_⟩) | refine .inr ⟨[.ext 1,.ext 3,.ext 4,.ext 5,.ext 2,.ext 6],?_⟩
 try cbv
 refine call_with hM hI [.ext 1,.ext 3,.ext 4,.ext 5,.ext 2,.ext 6] (T109 _ hr) rfl (by simp) ⟨rfl,⟨rfl,⟨rfl,⟨rfl,⟨rfl,⟨rfl,trivial⟩⟩⟩⟩⟩⟩ ⟨trivial,⟨trivial,⟨trivial,⟨trivial,⟨trivial,⟨trivial,trivial⟩⟩⟩⟩⟩⟩ (by simp) ?_
 try cbv
 first | refine⟨(rfl:(_:Option AObj)=_),?_⟩ | skip
 first | refine⟨(rfl:(_:Option AObj)=_),?_⟩ | skip
 first | refine⟨(rfl:(_:Option AObj)=_),?_⟩ | skip
 first | refine⟨(rfl:(_:Option AObj)=_),?_⟩ | skip
 first | refine⟨(rfl:(_:Option AObj)=_),?_⟩ | skip
 first | refine⟨(rfl:(_:Option AObj)=_),?_⟩ | skip
 try cbv
 clear hr
 try cbv
 replace h:=bO7_inv h
 obtain⟨z22,z23,s24,s25,s26,l27,l28,hr,h⟩:=h
 first | refine .inr (.inr ⟨[.ext 3,.ext 4,.ext 5],?_⟩) | refine .inr ⟨[.ext 3,.ext 4,.ext 5],?_⟩
 try cbv
 refine call_with hM hI [.ext 3,.ext 4,.ext 5] (T106 _ hr) rfl (by simp) ⟨rfl,⟨rfl,⟨rfl,trivial⟩⟩⟩ ⟨trivial,⟨trivial,⟨trivial,trivial⟩⟩⟩ (by simp) ?_
 try cbv
 first | refine⟨(rfl:(_:Option AObj)=_),?_⟩ | skip
 first | refine⟨(rfl:(_:Option AObj)=_),?_⟩ | skip
 first | refine⟨(rfl:(_:Option AObj)=_),?_⟩ | skip
 try cbv
 clear hr
 try cbv
 replace h:=bO0_inv h
 obtain⟨hr,h⟩:=h
 first | refine .inr (.inl ⟨[],?_⟩) | refine .inl ⟨[],?_⟩
 try cbv
 refine call_pure hM hI (T58 _ hr) rfl ?_
 clear hr
 try cbv
 refine drawn ?_ ?_
 ·show _=true
  kernel_rfl
 try cbv
 refine seq_go ?_
 try cbv
 obtain⟨rfl,rfl,rfl,rfl,rfl,rfl,rfl,rfl,rfl,rfl,rfl,rfl,rfl,rfl⟩:=inj14 h
 refine fin_go ?_
 try cbv
 exact⟨[],rfl,rfl,⟨rfl,⟨rfl,⟨rfl,⟨rfl,⟨rfl,⟨rfl,⟨rfl,trivial⟩⟩⟩⟩⟩⟩⟩,trivial,trivial⟩
mutual
def L113_1:Nat->LD->Int->LD->Int->Option LD
 | 0,_,_,_,_=>none
 | n+1,l1,z2,l3,z4=>
  (if z4<z2 then L113_2 n l1 z2 l3 z4 true else L113_2 n l1 z2 l3 z4 false)
def L113_2:Nat->LD->Int->LD->Int->Bool->Option LD
 | 0,_,_,_,_,_=>none
 | n+1,l1,z2,l3,z4,b5=>
  (if b5=true then getF l1 z4 fun x6=>ds_t45 x6 fun z7 s8 l9 z10 s11 l12 l13 z14 z15 s16 s17 s18 l19 l20 z21 z22=>bO14 (F114 n z7 s8 l9 z10 s11 l12 l13 z14 z15 s16 s17 s18 l19 l20 z21 z22) fun z23 s24 l25 z26 s27 l28 l29 z30 z31 s32 s33 s34 l35 l36=>appF 248 l3 ([.agg [.int .u8 z23,.str s24,.list true 4 l25,.int .u8 z26,.str s27,.list true 3 l28,.list true 15 l29,.int .u8 z30,.int .i64 z31,.str s32,.str s33,.str s34,.list false 1 l35,.list true 8 l36,.int .i64 0,.int .i64 0]]) fun l37=>letF (IntKind.wrap .i64 (z4+1)) fun z38=>L113_1 n l1 z2 l37 z38 else some l3)
end
def F113 (n:Nat) (l1:LD):Option LD:=
 lenF l1 fun z2=>L113_1 n l1 z2 ([]:LD) (0:Int)
theorem T113 (n:Nat):∀⦃l1 r1⦄,F113 n l1=some r1->
    Trip Tryz.prog inv 113 [.d (.list true 16 l1),.c (.fn 114 [.ext 0,.ext 1,.ext 2,.ext 4,.ext 5])] [.cells [.fn 112 [.ext 1]],.cells [.fn 102 [.ext 1]],.cells [.fn 110 [.ext 1,.ext 3,.ext 4,.ext 2,.ext 6,.ext 5]],.cells [.fn 104 []],.cells [.fn 106 [.ext 3,.ext 4,.ext 5]],.cells [.fn 58 []],.cells [.fn 108 [.ext 2]]] (.v (.d (.list true 16 r1))) [.cells [.fn 112 [.ext 1]],.cells [.fn 102 [.ext 1]],.cells [.fn 110 [.ext 1,.ext 3,.ext 4,.ext 2,.ext 6,.ext 5]],.cells [.fn 104 []],.cells [.fn 106 [.ext 3,.ext 4,.ext 5]],.cells [.fn 58 []],.cells [.fn 108 [.ext 2]]] []:=by
 intro l1 r1 h
 unfold F113 at h
 refine Trip.of tab_ok tab_one fol Tryz.func113 rfl (by kernel_rfl) rfl rfl rfl (fun M hM hI=>?_)
 try cbv
 refine seq_go ?_
 try cbv
 refine seq_go ?_
 try cbv
 refine seq_go ?_
 try cbv
 refine seq_go ?_
 try cbv
 replace h:=lenF_inv M h
 obtain⟨z2,hz,h⟩:=h
 refine⟨z2,hz,?_⟩
 clear hz
 try cbv
 refine loop_invT (T:=Nat×LD×Int) [.slot 5 true 16 45] [1,4,5,8,9,10] [.ext 0,.ext 1,.ext 2,.ext 3,.ext 4,.ext 5,.ext 6,.loc 160] 192 (fun t=>⟨[(1,.v (.c (.fn 114 [.ext 0,.ext 1,.ext 2,.ext 4,.ext 5]))),(4,.v (.c (.nils true 16))),(5,.v (.c (.lst (.loc 160) true 16 t.2.1))),sT 8 16 l1,sI 9 z2,sI 10 t.2.2],[(.ext 0,.cells [.fn 112 [.ext 1]]),(.ext 1,.cells [.fn 102 [.ext 1]]),(.ext 2,.cells [.fn 110 [.ext 1,.ext 3,.ext 4,.ext 2,.ext 6,.ext 5]]),(.ext 3,.cells [.fn 104 []]),(.ext 4,.cells [.fn 106 [.ext 3,.ext 4,.ext 5]]),(.ext 5,.cells [.fn 58 []]),(.ext 6,.cells [.fn 108 [.ext 2]]),(.loc 160,.tok t.2.1.length 16 45)],192⟩)
   (fun t=>t.1<=n/\L113_1 t.1 l1 z2 t.2.1 t.2.2=some r1) (fun t=>t.1) (n,(([]:LD),(0:Int))) ⟨Nat.le_refl _,h⟩ (by cbv) ?_
 clear h
 rintro⟨m1,l3,z4⟩ ⟨hm1,h⟩
 replace hm1:m1<=n:=hm1
 obtain _ | m1:=m1
 ·replace h:L113_1 0 l1 z2 l3 z4=some r1:=h
  rw[L113_1]at h
  cases h
 replace h:L113_1 (m1+1) l1 z2 l3 z4=some r1:=h
 rw[L113_1]at h
 try cbv
 refine seq_joinB 11 [1,4,5,8,9,10,11] [.ext 0,.ext 1,.ext 2,.ext 3,.ext 4,.ext 5,.ext 6,.loc 160] 224 (fun m b=>m<=m1/\L113_2 m l1 z2 l3 z4 b=some r1) ?_ ?_
 ·try cbv
  refine splitL (fun e=>?_) (fun e=>?_)
  ·replace h:=ite_t e h
   clear e
   try cbv
   exact join_next (m1,true) [1,4,5,8,9,10,11] [.ext 0,.ext 1,.ext 2,.ext 3,.ext 4,.ext 5,.ext 6,.loc 160] 224 ⟨by omega,h⟩ (by cbv)
  replace h:=ite_f (Int.not_lt.2 e) h
  clear e
  try cbv
  exact join_next (m1,false) [1,4,5,8,9,10,11] [.ext 0,.ext 1,.ext 2,.ext 3,.ext 4,.ext 5,.ext 6,.loc 160] 224 ⟨by omega,h⟩ (by cbv)
 clear h
 rintro⟨m2,b5⟩ ⟨hm2,h⟩
 try cbv
 replace hm2:m2<=m1:=hm2
 obtain _ | m2:=m2
 ·replace h:L113_2 0 l1 z2 l3 z4 b5=some r1:=h
  rw[L113_2]at h
  cases h
 replace h:L113_2 (m2+1) l1 z2 l3 z4 b5=some r1:=h
 rw[L113_2]at h
 try cbv
 refine seq_go ?_
 try cbv
 cases b5
 ·replace h:=itF h
  try cbv
  refine seq_go ?_
  try cbv
  obtain rfl:=Option.some.inj h
  refine fin_go ?_
  try cbv
  exact⟨[],rfl,rfl,⟨rfl,⟨rfl,⟨rfl,⟨rfl,⟨rfl,⟨rfl,⟨rfl,trivial⟩⟩⟩⟩⟩⟩⟩,trivial,trivial⟩
 replace h:=itT h
 try cbv
 refine seq_go ?_
 try cbv
 refine seq_go ?_
 try cbv
 replace h:=getF_inv h
 obtain⟨x6,⟨hx0,hx⟩,h⟩:=h
 refine⟨x6,hx0,hx,?_⟩
 clear hx0 hx
 replace h:=ds_t45_inv h
 obtain⟨z7,s8,l9,z10,s11,l12,l13,z14,z15,s16,s17,s18,l19,l20,z21,z22,rfl,h⟩:=h
 try cbv
 replace h:=bO14_inv h
 obtain⟨z23,s24,l25,z26,s27,l28,l29,z30,z31,s32,s33,s34,l35,l36,hr,h⟩:=h
 refine call_go rfl rfl ?_
 try cbv
 refine call_with hM hI [.ext 0,.ext 1,.ext 2,.ext 3,.ext 4,.ext 5,.ext 6] (T114 _ hr) rfl (by simp) ⟨rfl,⟨rfl,⟨rfl,⟨rfl,⟨rfl,⟨rfl,⟨rfl,trivial⟩⟩⟩⟩⟩⟩⟩ ⟨trivial,⟨trivial,⟨trivial,⟨trivial,⟨trivial,⟨trivial,⟨trivial,trivial⟩⟩⟩⟩⟩⟩⟩ (by simp) ?_
 clear hr
 try cbv
 refine⟨false,?_⟩
 try cbv
 refine⟨true,?_⟩
 try cbv
 replace h:=appF_inv h
 obtain⟨l37,hb,hz,h⟩:=h
 refine⟨false,?_⟩
 try cbv
 first | refine⟨rfl,(M.lock_iff _).2 hb,l37,hz,?_⟩ | refine⟨(M.lock_iff _).2 hb,l37,hz,?_⟩
 clear hb hz
 try cbv
 replace h:=letF_inv h
 obtain⟨z38,hz,h⟩:=h
 refine⟨z38,hz,?_⟩
 clear hz
 try cbv
 exact loop_next (m2,(l37,z38)) [1,4,5,8,9,10] [.ext 0,.ext 1,.ext 2,.ext 3,.ext 4,.ext 5,.ext 6,.loc 160] 192 ⟨by omega,h⟩ (Nat.lt_succ_of_le (by omega)) (by cbv)
def F56 (n:Nat) (l1:LD):Option LD:=
 bO1 (F113 n l1) fun l2=>some l2
theorem T56 (n:Nat):∀⦃l1 r1⦄,F56 n l1=some r1->
    Trip Tryz.prog inv 56 [.d (.agg [.list true 16 l1]),.c (.fn 58 [])] [] (.v (.d (.agg [.list true 16 r1]))) [] []:=by
 intro l1 r1 h
 unfold F56 at h
 refine Trip.of tab_ok tab_one fol Tryz.func56 rfl (by kernel_rfl) rfl rfl rfl (fun M hM hI=>?_)
 try cbv
 refine seq_go ?_
 try cbv
 refine seq_go ?_
 try cbv
 refine seq_go ?_
 try cbv
 refine seq_go ?_
 try cbv
 refine seq_go ?_
 try cbv
 refine seq_go ?_
 try cbv
 refine seq_go ?_
 try cbv
 refine seq_go ?_
 try cbv
 refine seq_go ?_
 try cbv
 refine seq_go ?_
 try cbv
 refine seq_go ?_
 try cbv
 replace h:=bO1_inv h
 obtain⟨l2,hr,h⟩:=h
 refine call_go rfl rfl ?_
 try cbv
 refine call_with hM hI [.loc 576,.loc 96,.loc 160,.loc 256,.loc 128,.loc 32,.loc 416] (T113 _ hr) rfl (by simp) ⟨rfl,⟨rfl,⟨rfl,⟨rfl,⟨rfl,⟨rfl,⟨rfl,trivial⟩⟩⟩⟩⟩⟩⟩ ⟨trivial,⟨trivial,⟨trivial,⟨trivial,⟨trivial,⟨trivial,⟨trivial,trivial⟩⟩⟩⟩⟩⟩⟩ (by simp) ?_
 clear hr
 try cbv
 obtain rfl:=Option.some.inj h
 refine fin_go ?_
 try cbv
 exact⟨[],by trivial⟩
def F24 (n:Nat) (l1:LD):Option LD:=
 bO1 (F56 n l1) fun l2=>some l2
theorem T24 (n:Nat):∀⦃l1 r1⦄,F24 n l1=some r1->
    Trip Tryz.prog inv 24 [.d (.agg [.list true 16 l1])] [] (.v (.d (.agg [.list true 16 r1]))) [] []:=by
 intro l1 r1 h
 unfold F24 at h
 refine Trip.of tab_ok tab_one fol Tryz.func24 rfl (by kernel_rfl) rfl rfl rfl (fun M hM hI=>?_)
 try cbv
 refine seq_go ?_
 try cbv
 refine seq_go ?_
 try cbv
 replace h:=bO1_inv h
 obtain⟨l2,hr,h⟩:=h
 refine call_go rfl rfl ?_
 try cbv
 refine call_pure hM hI (T56 _ hr) rfl ?_
 clear hr
 try cbv
 obtain rfl:=Option.some.inj h
 refine fin_go ?_
 try cbv
 exact⟨[],by trivial⟩
mutual
def L116_1:Nat->LD->LD->Bool->Option (Bool)
 | 0,_,_,_=>none
 | n+1,l1,l2,b5=>
  (if b5=true then some false else lenF l1 fun z6=>L116_2 n l1 l2 z6 (0:Int))
def L116_2:Nat->LD->LD->Int->Int->Option (Bool)
 | 0,_,_,_,_=>none
 | n+1,l1,l2,z6,z7=>
  (if z7<z6 then L116_3 n l1 l2 z6 z7 true else L116_3 n l1 l2 z6 z7 false)
def L116_3:Nat->LD->LD->Int->Int->Bool->Option (Bool)
 | 0,_,_,_,_,_=>none
 | n+1,l1,l2,z6,z7,b8=>
  (if b8=true then getF l1 z7 fun x9=>ds_t33 x9 fun z10 s11 l12=>getF l2 z7 fun x13=>ds_t33 x13 fun z14 s15 l16=>bO1 (F61 n z10 s11 l12 z14 s15 l16) fun b17=>letB (!b17) fun b18=>(if b18=true then some false else letF (IntKind.wrap .i64 (z7+1)) fun z19=>L116_2 n l1 l2 z6 z19)else some true)
def F116:Nat->LD->LD->Option (Bool)
 | 0,_,_=>none
 | n+1,l1,l2=>
  lenF l1 fun z3=>lenF l2 fun z4=>(if z3=z4 then L116_1 n l1 l2 false else L116_1 n l1 l2 true)
def F61:Nat->Int->BA->LD->Int->BA->LD->Option (Bool)
 | 0,_,_,_,_,_,_=>none
 | n+1,z1,s2,l3,z4,s5,l6=>
  (if z1=z4 then (if s2=s5 then bO1 (F116 n l3 l6) fun b7=>some b7 else some false)else some false)
end
theorem G116 (n:Nat):(∀⦃l1 l2 r1⦄,F116 n l1 l2=some r1->
    Trip Tryz.prog inv 116 [.d (.list true 3 l1),.d (.list true 3 l2),.c (.fn 61 [])] [] (.v (.d (.bool r1))) [] [])/\
    (∀⦃z1 s2 l3 z4 s5 l6 r1⦄,F61 n z1 s2 l3 z4 s5 l6=some r1->
    Trip Tryz.prog inv 61 [.d (.agg [.int .u8 z1,.str s2,.list true 3 l3]),.d (.agg [.int .u8 z4,.str s5,.list true 3 l6])] [] (.v (.d (.bool r1))) [] []):=by
 induction n using Nat.strongRecOn with | _ n ih=>
 obtain _ | n:=n
 ·refine⟨?_,?_⟩
  ·intro l1 l2 r1 h
   cases (show (none:Option _)=some _ from h)
  intro z1 s2 l3 z4 s5 l6 r1 h
  cases (show (none:Option _)=some _ from h)
 refine⟨?_,?_⟩
 rotate_left
 ·intro z1 s2 l3 z4 s5 l6 r1 h
  rw[F61]at h
  refine Trip.of tab_ok tab_one fol Tryz.func61 rfl (by kernel_rfl) rfl rfl rfl (fun M hM hI=>?_)
  try cbv
  refine seq_go ?_
  try cbv
  refine seq_go ?_
  try cbv
  refine splitI (fun e=>?_) (fun e=>?_)
  rotate_left
  ·replace h:=ite_f e h
   clear e
   try cbv
   obtain rfl:=Option.some.inj h
   refine fin_go ?_
   try cbv
   exact⟨[],by trivial⟩
  replace h:=ite_t e h
  clear e
  try cbv
  refine splitS (fun e=>?_) (fun e=>?_)
  ·replace h:=ite_t (bytes_eq.1 e) h
   clear e
   try cbv
   replace h:=bO1_inv h
   obtain⟨b7,hr,h⟩:=h
   refine call_go rfl rfl ?_
   try cbv
   refine call_pure hM hI ((ih _ (by omega)).1 hr) rfl ?_
   clear hr
   try cbv
   obtain rfl:=Option.some.inj h
   refine fin_go ?_
   try cbv
   exact⟨[],by trivial⟩
  replace h:=ite_f (bytes_ne.1 e) h
  clear e
  try cbv
  obtain rfl:=Option.some.inj h
  refine fin_go ?_
  try cbv
  exact⟨[],by trivial⟩
 intro l1 l2 r1 h
 rw[F116]at h
 refine Trip.of tab_ok tab_one fol Tryz.func116 rfl (by kernel_rfl) rfl rfl rfl (fun M hM hI=>?_)
 try cbv
 refine seq_go ?_
 try cbv
 refine seq_go ?_
 try cbv
 refine seq_joinB 14 [0,1,2,6,14] [] 192 (fun m b=>m<=n/\L116_1 m l1 l2 b=some r1) ?_ ?_
 ·try cbv
  replace h:=lenF_inv M h
  obtain⟨z3,hz,h⟩:=h
  refine⟨z3,hz,?_⟩
  clear hz
  try cbv
  replace h:=lenF_inv M h
  obtain⟨z4,hz,h⟩:=h
  refine⟨z4,hz,?_⟩
  clear hz
  try cbv
  refine splitI (fun e=>?_) (fun e=>?_)
  ·replace h:=ite_t e h
   clear e
   try cbv
   exact join_next (n,false) [0,1,2,6,14] [] 192 ⟨by omega,h⟩ (by cbv)
  replace h:=ite_f e h
  clear e
  try cbv
  exact join_next (n,true) [0,1,2,6,14] [] 192 ⟨by omega,h⟩ (by cbv)
 clear h
 rintro⟨m1,b5⟩ ⟨hm1,h⟩
 try cbv
 replace hm1:m1<=n:=hm1
 obtain _ | m1:=m1
 ·replace h:L116_1 0 l1 l2 b5=some r1:=h
  rw[L116_1]at h
  cases h
 replace h:L116_1 (m1+1) l1 l2 b5=some r1:=h
 rw[L116_1]at h
 try cbv
 cases b5
 rotate_left
 ·replace h:=itT h
  try cbv
  refine seq_go ?_
  try cbv
  obtain rfl:=Option.some.inj h
  refine fin_go ?_
  try cbv
  exact⟨[],by trivial⟩
 replace h:=itF h
 try cbv
 refine seq_go ?_
 try cbv
 refine seq_go ?_
 try cbv
 replace h:=lenF_inv M h
 obtain⟨z6,hz,h⟩:=h
 refine⟨z6,hz,?_⟩
 clear hz
 try cbv
 refine loop_inv (T:=Nat×Int) [1,2,6,15,16,17] [] 288 (fun t=>⟨[sT 1 3 l2,(2,.v (.c (.fn 61 []))),sB 6 false,sT 15 3 l1,sI 16 z6,sI 17 t.2],[],288⟩)
   (fun t=>t.1<=m1/\L116_2 t.1 l1 l2 z6 t.2=some r1) (fun t=>t.1) (m1,(0:Int)) ⟨Nat.le_refl _,h⟩ (by cbv) ?_
 clear h
 rintro⟨m2,z7⟩ ⟨hm2,h⟩
 replace hm2:m2<=m1:=hm2
 obtain _ | m2:=m2
 ·replace h:L116_2 0 l1 l2 z6 z7=some r1:=h
  rw[L116_2]at h
  cases h
 replace h:L116_2 (m2+1) l1 l2 z6 z7=some r1:=h
 rw[L116_2]at h
 try cbv
 refine seq_joinB 18 [1,2,6,15,16,17,18] [] 320 (fun m b=>m<=m2/\L116_3 m l1 l2 z6 z7 b=some r1) ?_ ?_
 ·try cbv
  refine splitL (fun e=>?_) (fun e=>?_)
  ·replace h:=ite_t e h
   clear e
   try cbv
   exact join_next (m2,true) [1,2,6,15,16,17,18] [] 320 ⟨by omega,h⟩ (by cbv)
  replace h:=ite_f (Int.not_lt.2 e) h
  clear e
  try cbv
  exact join_next (m2,false) [1,2,6,15,16,17,18] [] 320 ⟨by omega,h⟩ (by cbv)
 clear h
 rintro⟨m3,b8⟩ ⟨hm3,h⟩
 try cbv
 replace hm3:m3<=m2:=hm3
 obtain _ | m3:=m3
 ·replace h:L116_3 0 l1 l2 z6 z7 b8=some r1:=h
  rw[L116_3]at h
  cases h
 replace h:L116_3 (m3+1) l1 l2 z6 z7 b8=some r1:=h
 rw[L116_3]at h
 try cbv
 refine seq_go ?_
 try cbv
 cases b8
 ·replace h:=itF h
  try cbv
  refine seq_go ?_
  try cbv
  obtain rfl:=Option.some.inj h
  refine fin_go ?_
  try cbv
  exact⟨[],by trivial⟩
 replace h:=itT h
 try cbv
 refine seq_go ?_
 try cbv
 refine seq_go ?_
 try cbv
 replace h:=getF_inv h
 obtain⟨x9,⟨hx0,hx⟩,h⟩:=h
 refine⟨x9,hx0,hx,?_⟩
 clear hx0 hx
 replace h:=ds_t33_inv h
 obtain⟨z10,s11,l12,rfl,h⟩:=h
 try cbv
 refine seq_go ?_
 try cbv
 replace h:=getF_inv h
 obtain⟨x13,⟨hx0,hx⟩,h⟩:=h
 refine⟨x13,hx0,hx,?_⟩
 clear hx0 hx
 replace h:=ds_t33_inv h
 obtain⟨z14,s15,l16,rfl,h⟩:=h
 try cbv
 refine seq_go ?_
 try cbv
 replace h:=bO1_inv h
 obtain⟨b17,hr,h⟩:=h
 refine call_go rfl rfl ?_
 try cbv
 refine call_pure hM hI ((ih _ (by omega)).2 hr) rfl ?_
 clear hr
 try cbv
 replace h:=letB_inv h
 obtain⟨b18,hz,h⟩:=h
 refine⟨b18,not_eq' hz,?_⟩
 clear hz
 try cbv
 cases b18
 ·replace h:=itF h
  try cbv
  replace h:=letF_inv h
  obtain⟨z19,hz,h⟩:=h
  refine⟨z19,hz,?_⟩
  clear hz
  try cbv
  exact loop_next (m3,z19) [1,2,6,15,16,17] [] 288 ⟨by omega,h⟩ (Nat.lt_succ_of_le (by omega)) (by cbv)
 replace h:=itT h
 try cbv
 refine seq_go ?_
 try cbv
 obtain rfl:=Option.some.inj h
 refine fin_go ?_
 try cbv
 exact⟨[],by trivial⟩
theorem T61 (n:Nat):∀⦃z1 s2 l3 z4 s5 l6 r1⦄,F61 n z1 s2 l3 z4 s5 l6=some r1->
  Trip Tryz.prog inv 61 [.d (.agg [.int .u8 z1,.str s2,.list true 3 l3]),.d (.agg [.int .u8 z4,.str s5,.list true 3 l6])] [] (.v (.d (.bool r1))) [] []:=(G116 n).2
mutual
def F141:Nat->BA->BA->LD->BA->BA->LD->Option (Bool)
 | 0,_,_,_,_,_,_=>none
 | n+1,s1,s2,l3,s4,s5,l6=>
  (if s1=s4 then (if s2=s5 then bO1 (F63 n l3 l6) fun b7=>some b7 else some false)else some false)
def L140_1:Nat->LD->LD->Bool->Option (Bool)
 | 0,_,_,_=>none
 | n+1,l1,l2,b5=>
  (if b5=true then some false else lenF l1 fun z6=>L140_2 n l1 l2 z6 (0:Int))
def L140_2:Nat->LD->LD->Int->Int->Option (Bool)
 | 0,_,_,_,_=>none
 | n+1,l1,l2,z6,z7=>
  (if z7<z6 then L140_3 n l1 l2 z6 z7 true else L140_3 n l1 l2 z6 z7 false)
def L140_3:Nat->LD->LD->Int->Int->Bool->Option (Bool)
 | 0,_,_,_,_,_=>none
 | n+1,l1,l2,z6,z7,b8=>
  (if b8=true then getF l1 z7 fun x9=>ds_t95 x9 fun s10 s11 l12=>getF l2 z7 fun x13=>ds_t95 x13 fun s14 s15 l16=>bO1 (F141 n s10 s11 l12 s14 s15 l16) fun b17=>letB (!b17) fun b18=>(if b18=true then some false else letF (IntKind.wrap .i64 (z7+1)) fun z19=>L140_2 n l1 l2 z6 z19)else some true)
def F140:Nat->LD->LD->Option (Bool)
 | 0,_,_=>none
 | n+1,l1,l2=>
  lenF l1 fun z3=>lenF l2 fun z4=>(if z3=z4 then L140_1 n l1 l2 false else L140_1 n l1 l2 true)
def F120:Nat->Int->BA->BA->LD->Int->BA->LD->Int->BA->LD->LD->LD->LD->LD->Int->Int->BA->BA->LD->Int->BA->LD->Int->BA->LD->LD->LD->LD->LD->Int->Option (Bool)
 | 0,_,_,_,_,_,_,_,_,_,_,_,_,_,_,_,_,_,_,_,_,_,_,_,_,_,_,_,_,_,_=>none
 | n+1,z1,s2,s3,l4,z5,s6,l7,z8,s9,l10,l11,l12,l13,l14,z15,z16,s17,s18,l19,z20,s21,l22,z23,s24,l25,l26,l27,l28,l29,z30=>
  (if z1=z16 then (if s2=s17 then (if s3=s18 then bO1 (F139 n l4 l19) fun b31=>(if b31=true then bO1 (F61 n z5 s6 l7 z20 s21 l22) fun b32=>(if b32=true then (if z8=z23 then bO1 (F117 n s9 l10 s24 l25) fun b33=>(if b33=true then bO1 (F118 n l11 l26) fun b34=>(if b34=true then bO1 (F63 n l12 l27) fun b35=>(if b35=true then bO1 (F63 n l13 l28) fun b36=>(if b36=true then bO1 (F140 n l14 l29) fun b37=>some b37 else some false)else some false)else some false)else some false)else some false)else some false)else some false)else some false)else some false)else some false)
def L119_1:Nat->LD->LD->Bool->Option (Bool)
 | 0,_,_,_=>none
 | n+1,l1,l2,b5=>
  (if b5=true then some false else lenF l1 fun z6=>L119_2 n l1 l2 z6 (0:Int))
def L119_2:Nat->LD->LD->Int->Int->Option (Bool)
 | 0,_,_,_,_=>none
 | n+1,l1,l2,z6,z7=>
  (if z7<z6 then L119_3 n l1 l2 z6 z7 true else L119_3 n l1 l2 z6 z7 false)
def L119_3:Nat->LD->LD->Int->Int->Bool->Option (Bool)
 | 0,_,_,_,_,_=>none
 | n+1,l1,l2,z6,z7,b8=>
  (if b8=true then getF l1 z7 fun x9=>ds_t50 x9 fun z10 s11 s12 l13 z14 s15 l16 z17 s18 l19 l20 l21 l22 l23 z24=>getF l2 z7 fun x25=>ds_t50 x25 fun z26 s27 s28 l29 z30 s31 l32 z33 s34 l35 l36 l37 l38 l39 z40=>bO1 (F120 n z10 s11 s12 l13 z14 s15 l16 z17 s18 l19 l20 l21 l22 l23 z24 z26 s27 s28 l29 z30 s31 l32 z33 s34 l35 l36 l37 l38 l39 z40) fun b41=>letB (!b41) fun b42=>(if b42=true then some false else letF (IntKind.wrap .i64 (z7+1)) fun z43=>L119_2 n l1 l2 z6 z43)else some true)
def F119:Nat->LD->LD->Option (Bool)
 | 0,_,_=>none
 | n+1,l1,l2=>
  lenF l1 fun z3=>lenF l2 fun z4=>(if z3=z4 then L119_1 n l1 l2 false else L119_1 n l1 l2 true)
def F63:Nat->LD->LD->Option (Bool)
 | 0,_,_=>none
 | n+1,l1,l2=>
  bO1 (F119 n l1 l2) fun b3=>some b3
end
theorem G141 (n:Nat):(∀⦃s1 s2 l3 s4 s5 l6 r1⦄,F141 n s1 s2 l3 s4 s5 l6=some r1->
    Trip Tryz.prog inv 141 [.d (.agg [.str s1,.str s2,.list true 15 l3]),.d (.agg [.str s4,.str s5,.list true 15 l6])] [] (.v (.d (.bool r1))) [] [])/\
    (∀⦃l1 l2 r1⦄,F140 n l1 l2=some r1->
    Trip Tryz.prog inv 140 [.d (.list true 3 l1),.d (.list true 3 l2),.c (.fn 141 [])] [] (.v (.d (.bool r1))) [] [])/\
    (∀⦃z1 s2 s3 l4 z5 s6 l7 z8 s9 l10 l11 l12 l13 l14 z15 z16 s17 s18 l19 z20 s21 l22 z23 s24 l25 l26 l27 l28 l29 z30 r1⦄,F120 n z1 s2 s3 l4 z5 s6 l7 z8 s9 l10 l11 l12 l13 l14 z15 z16 s17 s18 l19 z20 s21 l22 z23 s24 l25 l26 l27 l28 l29 z30=some r1->
    Trip Tryz.prog inv 120 [.d (.agg [.int .u8 z1,.str s2,.str s3,.list false 1 l4,.int .u8 z5,.str s6,.list true 3 l7,.int .i64 z8,.str s9,.list false 1 l10,.list true 8 l11,.list true 15 l12,.list true 15 l13,.list true 3 l14,.int .i64 z15]),.d (.agg [.int .u8 z16,.str s17,.str s18,.list false 1 l19,.int .u8 z20,.str s21,.list true 3 l22,.int .i64 z23,.str s24,.list false 1 l25,.list true 8 l26,.list true 15 l27,.list true 15 l28,.list true 3 l29,.int .i64 z30])] [] (.v (.d (.bool r1))) [] [])/\
    (∀⦃l1 l2 r1⦄,F119 n l1 l2=some r1->
    Trip Tryz.prog inv 119 [.d (.list true 15 l1),.d (.list true 15 l2),.c (.fn 120 [])] [] (.v (.d (.bool r1))) [] [])/\
    (∀⦃l1 l2 r1⦄,F63 n l1 l2=some r1->
    Trip Tryz.prog inv 63 [.d (.list true 15 l1),.d (.list true 15 l2)] [] (.v (.d (.bool r1))) [] []):=by
 induction n using Nat.strongRecOn with | _ n ih=>
 obtain _ | n:=n
 ·refine⟨?_,?_,?_,?_,?_⟩
  ·intro s1 s2 l3 s4 s5 l6 r1 h
   cases (show (none:Option _)=some _ from h)
  ·intro l1 l2 r1 h
   cases (show (none:Option _)=some _ from h)
  ·intro z1 s2 s3 l4 z5 s6 l7 z8 s9 l10 l11 l12 l13 l14 z15 z16 s17 s18 l19 z20 s21 l22 z23 s24 l25 l26 l27 l28 l29 z30 r1 h
   cases (show (none:Option _)=some _ from h)
  ·intro l1 l2 r1 h
   cases (show (none:Option _)=some _ from h)
  intro l1 l2 r1 h
  cases (show (none:Option _)=some _ from h)
 refine⟨?_,?_,?_,?_,?_⟩
 ·intro s1 s2 l3 s4 s5 l6 r1 h
  rw[F141]at h
  refine Trip.of tab_ok tab_one fol Tryz.func141 rfl (by kernel_rfl) rfl rfl rfl (fun M hM hI=>?_)
  try cbv
  refine seq_go ?_
  try cbv
  refine seq_go ?_
  try cbv
  refine splitS (fun e=>?_) (fun e=>?_)
  rotate_left
  ·replace h:=ite_f (bytes_ne.1 e) h
   clear e
   try cbv
   obtain rfl:=Option.some.inj h
   refine fin_go ?_
   try cbv
   exact⟨[],by trivial⟩
  replace h:=ite_t (bytes_eq.1 e) h
  clear e
  try cbv
  refine splitS (fun e=>?_) (fun e=>?_)
  ·replace h:=ite_t (bytes_eq.1 e) h
   clear e
   try cbv
   replace h:=bO1_inv h
   obtain⟨b7,hr,h⟩:=h
   refine call_go rfl rfl ?_
   try cbv
   refine call_pure hM hI ((ih _ (by omega)).2.2.2.2 hr) rfl ?_
   clear hr
   try cbv
   obtain rfl:=Option.some.inj h
   refine fin_go ?_
   try cbv
   exact⟨[],by trivial⟩
  replace h:=ite_f (bytes_ne.1 e) h
  clear e
  try cbv
  obtain rfl:=Option.some.inj h
  refine fin_go ?_
  try cbv
  exact⟨[],by trivial⟩
 ·intro l1 l2 r1 h
  rw[F140]at h
  refine Trip.of tab_ok tab_one fol Tryz.func140 rfl (by kernel_rfl) rfl rfl rfl (fun M hM hI=>?_)
  try cbv
  refine seq_go ?_
  try cbv
  refine seq_go ?_
  try cbv
  refine seq_joinB 14 [0,1,2,6,14] [] 192 (fun m b=>m<=n/\L140_1 m l1 l2 b=some r1) ?_ ?_
  ·try cbv
   replace h:=lenF_inv M h
   obtain⟨z3,hz,h⟩:=h
   refine⟨z3,hz,?_⟩
   clear hz
   try cbv
   replace h:=lenF_inv M h
   obtain⟨z4,hz,h⟩:=h
   refine⟨z4,hz,?_⟩
   clear hz
   try cbv
   refine splitI (fun e=>?_) (fun e=>?_)
   ·replace h:=ite_t e h
    clear e
    try cbv
    exact join_next (n,false) [0,1,2,6,14] [] 192 ⟨by omega,h⟩ (by cbv)
   replace h:=ite_f e h
   clear e
   try cbv
   exact join_next (n,true) [0,1,2,6,14] [] 192 ⟨by omega,h⟩ (by cbv)
  clear h
  rintro⟨m1,b5⟩ ⟨hm1,h⟩
  try cbv
  replace hm1:m1<=n:=hm1
  obtain _ | m1:=m1
  ·replace h:L140_1 0 l1 l2 b5=some r1:=h
   rw[L140_1]at h
   cases h
  replace h:L140_1 (m1+1) l1 l2 b5=some r1:=h
  rw[L140_1]at h
  try cbv
  cases b5
  rotate_left
  ·replace h:=itT h
   try cbv
   refine seq_go ?_
   try cbv
   obtain rfl:=Option.some.inj h
   refine fin_go ?_
   try cbv
   exact⟨[],by trivial⟩
  replace h:=itF h
  try cbv
  refine seq_go ?_
  try cbv
  refine seq_go ?_
  try cbv
  replace h:=lenF_inv M h
  obtain⟨z6,hz,h⟩:=h
  refine⟨z6,hz,?_⟩
  clear hz
  try cbv
  refine loop_inv (T:=Nat×Int) [1,2,6,15,16,17] [] 288 (fun t=>⟨[sT 1 3 l2,(2,.v (.c (.fn 141 []))),sB 6 false,sT 15 3 l1,sI 16 z6,sI 17 t.2],[],288⟩)
    (fun t=>t.1<=m1/\L140_2 t.1 l1 l2 z6 t.2=some r1) (fun t=>t.1) (m1,(0:Int)) ⟨Nat.le_refl _,h⟩ (by cbv) ?_
  clear h
  rintro⟨m2,z7⟩ ⟨hm2,h⟩
  replace hm2:m2<=m1:=hm2
  obtain _ | m2:=m2
  ·replace h:L140_2 0 l1 l2 z6 z7=some r1:=h
   rw[L140_2]at h
   cases h
  replace h:L140_2 (m2+1) l1 l2 z6 z7=some r1:=h
  rw[L140_2]at h
  try cbv
  refine seq_joinB 18 [1,2,6,15,16,17,18] [] 320 (fun m b=>m<=m2/\L140_3 m l1 l2 z6 z7 b=some r1) ?_ ?_
  ·try cbv
   refine splitL (fun e=>?_) (fun e=>?_)
   ·replace h:=ite_t e h
    clear e
    try cbv
    exact join_next (m2,true) [1,2,6,15,16,17,18] [] 320 ⟨by omega,h⟩ (by cbv)
   replace h:=ite_f (Int.not_lt.2 e) h
   clear e
   try cbv
   exact join_next (m2,false) [1,2,6,15,16,17,18] [] 320 ⟨by omega,h⟩ (by cbv)
  clear h
  rintro⟨m3,b8⟩ ⟨hm3,h⟩
  try cbv
  replace hm3:m3<=m2:=hm3
  obtain _ | m3:=m3
  ·replace h:L140_3 0 l1 l2 z6 z7 b8=some r1:=h
   rw[L140_3]at h
   cases h
  replace h:L140_3 (m3+1) l1 l2 z6 z7 b8=some r1:=h
  rw[L140_3]at h
  try cbv
  refine seq_go ?_
  try cbv
  cases b8
  ·replace h:=itF h
   try cbv
   refine seq_go ?_
   try cbv
   obtain rfl:=Option.some.inj h
   refine fin_go ?_
   try cbv
   exact⟨[],by trivial⟩
  replace h:=itT h
  try cbv
  refine seq_go ?_
  try cbv
  refine seq_go ?_
  try cbv
  replace h:=getF_inv h
  obtain⟨x9,⟨hx0,hx⟩,h⟩:=h
  refine⟨x9,hx0,hx,?_⟩
  clear hx0 hx
  replace h:=ds_t95_inv h
  obtain⟨s10,s11,l12,rfl,h⟩:=h
  try cbv
  refine seq_go ?_
  try cbv
  replace h:=getF_inv h
  obtain⟨x13,⟨hx0,hx⟩,h⟩:=h
  refine⟨x13,hx0,hx,?_⟩
  clear hx0 hx
  replace h:=ds_t95_inv h
  obtain⟨s14,s15,l16,rfl,h⟩:=h
  try cbv
  refine seq_go ?_
  try cbv
  replace h:=bO1_inv h
  obtain⟨b17,hr,h⟩:=h
  refine call_go rfl rfl ?_
  try cbv
  refine call_pure hM hI ((ih _ (by omega)).1 hr) rfl ?_
  clear hr
  try cbv
  replace h:=letB_inv h
  obtain⟨b18,hz,h⟩:=h
  refine⟨b18,not_eq' hz,?_⟩
  clear hz
  try cbv
  cases b18
  ·replace h:=itF h
   try cbv
   replace h:=letF_inv h
   obtain⟨z19,hz,h⟩:=h
   refine⟨z19,hz,?_⟩
   clear hz
   try cbv
   exact loop_next (m3,z19) [1,2,6,15,16,17] [] 288 ⟨by omega,h⟩ (Nat.lt_succ_of_le (by omega)) (by cbv)
  replace h:=itT h
  try cbv
  refine seq_go ?_
  try cbv
  obtain rfl:=Option.some.inj h
  refine fin_go ?_
  try cbv
  exact⟨[],by trivial⟩
 ·intro z1 s2 s3 l4 z5 s6 l7 z8 s9 l10 l11 l12 l13 l14 z15 z16 s17 s18 l19 z20 s21 l22 z23 s24 l25 l26 l27 l28 l29 z30 r1 h
  rw[F120]at h
  refine Trip.of tab_ok tab_one fol Tryz.func120 rfl (by kernel_rfl) rfl rfl rfl (fun M hM hI=>?_)
  try cbv
  refine seq_go ?_
  try cbv
  refine seq_go ?_
  try cbv
  refine splitI (fun e=>?_) (fun e=>?_)
  rotate_left
  ·replace h:=ite_f e h
   clear e
   try cbv
   obtain rfl:=Option.some.inj h
   refine fin_go ?_
   try cbv
   exact⟨[],by trivial⟩
  replace h:=ite_t e h
  clear e
  try cbv
  refine splitS (fun e=>?_) (fun e=>?_)
  rotate_left
  ·replace h:=ite_f (bytes_ne.1 e) h
   clear e
   try cbv
   obtain rfl:=Option.some.inj h
   refine fin_go ?_
   try cbv
   exact⟨[],by trivial⟩
  replace h:=ite_t (bytes_eq.1 e) h
  clear e
  try cbv
  refine splitS (fun e=>?_) (fun e=>?_)
  rotate_left
  ·replace h:=ite_f (bytes_ne.1 e) h
   clear e
   try cbv
   obtain rfl:=Option.some.inj h
   refine fin_go ?_
   try cbv
   exact⟨[],by trivial⟩
  replace h:=ite_t (bytes_eq.1 e) h
  clear e
  try cbv
  replace h:=bO1_inv h
  obtain⟨b31,hr,h⟩:=h
  refine call_go rfl rfl ?_
  try cbv
  refine call_pure hM hI (T139 _ hr) rfl ?_
  clear hr
  try cbv
  cases b31
  ·replace h:=itF h
   try cbv
   obtain rfl:=Option.some.inj h
   refine fin_go ?_
   try cbv
   exact⟨[],by trivial⟩
  replace h:=itT h
  try cbv
  replace h:=bO1_inv h
  obtain⟨b32,hr,h⟩:=h
  refine call_go rfl rfl ?_
  try cbv
  refine call_pure hM hI (T61 _ hr) rfl ?_
  clear hr
  try cbv
  cases b32
  ·replace h:=itF h
   try cbv
   obtain rfl:=Option.some.inj h
   refine fin_go ?_
   try cbv
   exact⟨[],by trivial⟩
  replace h:=itT h
  try cbv
  refine splitI (fun e=>?_) (fun e=>?_)
  rotate_left
  ·replace h:=ite_f e h
   clear e
   try cbv
   obtain rfl:=Option.some.inj h
   refine fin_go ?_
   try cbv
   exact⟨[],by trivial⟩
  replace h:=ite_t e h
  clear e
  try cbv
  replace h:=bO1_inv h
  obtain⟨b33,hr,h⟩:=h
  refine call_go rfl rfl ?_
  try cbv
  refine call_pure hM hI (T117 _ hr) rfl ?_
  clear hr
  try cbv
  cases b33
  ·replace h:=itF h
   try cbv
   obtain rfl:=Option.some.inj h
   refine fin_go ?_
   try cbv
   exact⟨[],by trivial⟩
  replace h:=itT h
  try cbv
  replace h:=bO1_inv h
  obtain⟨b34,hr,h⟩:=h
  refine call_go rfl rfl ?_
  try cbv
  refine call_pure hM hI (T118 _ hr) rfl ?_
  clear hr
  try cbv
  cases b34
  ·replace h:=itF h
   try cbv
   obtain rfl:=Option.some.inj h
   refine fin_go ?_
   try cbv
   exact⟨[],by trivial⟩
  replace h:=itT h
  try cbv
  replace h:=bO1_inv h
  obtain⟨b35,hr,h⟩:=h
  refine call_go rfl rfl ?_
  try cbv
  refine call_pure hM hI ((ih _ (by omega)).2.2.2.2 hr) rfl ?_
  clear hr
  try cbv
  cases b35
  ·replace h:=itF h
   try cbv
   obtain rfl:=Option.some.inj h
   refine fin_go ?_
   try cbv
   exact⟨[],by trivial⟩
  replace h:=itT h
  try cbv
  replace h:=bO1_inv h
  obtain⟨b36,hr,h⟩:=h
  refine call_go rfl rfl ?_
  try cbv
  refine call_pure hM hI ((ih _ (by omega)).2.2.2.2 hr) rfl ?_
  clear hr
  try cbv
  cases b36
  ·replace h:=itF h
   try cbv
   obtain rfl:=Option.some.inj h
   refine fin_go ?_
   try cbv
   exact⟨[],by trivial⟩
  replace h:=itT h
  try cbv
  replace h:=bO1_inv h
  obtain⟨b37,hr,h⟩:=h
  refine call_go rfl rfl ?_
  try cbv
  refine call_pure hM hI ((ih _ (by omega)).2.1 hr) rfl ?_
  clear hr
  try cbv
  obtain rfl:=Option.some.inj h
  refine fin_go ?_
  try cbv
  exact⟨[],by trivial⟩
 ·intro l1 l2 r1 h
  rw[F119]at h
  refine Trip.of tab_ok tab_one fol Tryz.func119 rfl (by kernel_rfl) rfl rfl rfl (fun M hM hI=>?_)
  try cbv
  refine seq_go ?_
  try cbv
  refine seq_go ?_
  try cbv
  refine seq_joinB 14 [0,1,2,6,14] [] 192 (fun m b=>m<=n/\L119_1 m l1 l2 b=some r1) ?_ ?_
  ·try cbv
   replace h:=lenF_inv M h
   obtain⟨z3,hz,h⟩:=h
   refine⟨z3,hz,?_⟩
   clear hz
   try cbv
   replace h:=lenF_inv M h
   obtain⟨z4,hz,h⟩:=h
   refine⟨z4,hz,?_⟩
   clear hz
   try cbv
   refine splitI (fun e=>?_) (fun e=>?_)
   ·replace h:=ite_t e h
    clear e
    try cbv
    exact join_next (n,false) [0,1,2,6,14] [] 192 ⟨by omega,h⟩ (by cbv)
   replace h:=ite_f e h
   clear e
   try cbv
   exact join_next (n,true) [0,1,2,6,14] [] 192 ⟨by omega,h⟩ (by cbv)
  clear h
  rintro⟨m1,b5⟩ ⟨hm1,h⟩
  try cbv
  replace hm1:m1<=n:=hm1
  obtain _ | m1:=m1
  ·replace h:L119_1 0 l1 l2 b5=some r1:=h
   rw[L119_1]at h
   cases h
  replace h:L119_1 (m1+1) l1 l2 b5=some r1:=h
  rw[L119_1]at h
  try cbv
  cases b5
  rotate_left
  ·replace h:=itT h
   try cbv
   refine seq_go ?_
   try cbv
   obtain rfl:=Option.some.inj h
   refine fin_go ?_
   try cbv
   exact⟨[],by trivial⟩
  replace h:=itF h
  try cbv
  refine seq_go ?_
  try cbv
  refine seq_go ?_
  try cbv
  replace h:=lenF_inv M h
  obtain⟨z6,hz,h⟩:=h
  refine⟨z6,hz,?_⟩
  clear hz
  try cbv
  refine loop_inv (T:=Nat×Int) [1,2,6,15,16,17] [] 288 (fun t=>⟨[sT 1 15 l2,(2,.v (.c (.fn 120 []))),sB 6 false,sT 15 15 l1,sI 16 z6,sI 17 t.2],[],288⟩)
    (fun t=>t.1<=m1/\L119_2 t.1 l1 l2 z6 t.2=some r1) (fun t=>t.1) (m1,(0:Int)) ⟨Nat.le_refl _,h⟩ (by cbv) ?_
  clear h
  rintro⟨m2,z7⟩ ⟨hm2,h⟩
  replace hm2:m2<=m1:=hm2
  obtain _ | m2:=m2
  ·replace h:L119_2 0 l1 l2 z6 z7=some r1:=h
   rw[L119_2]at h
   cases h
  replace h:L119_2 (m2+1) l1 l2 z6 z7=some r1:=h
  rw[L119_2]at h
  try cbv
  refine seq_joinB 18 [1,2,6,15,16,17,18] [] 320 (fun m b=>m<=m2/\L119_3 m l1 l2 z6 z7 b=some r1) ?_ ?_
  ·try cbv
   refine splitL (fun e=>?_) (fun e=>?_)
   ·replace h:=ite_t e h
    clear e
    try cbv
    exact join_next (m2,true) [1,2,6,15,16,17,18] [] 320 ⟨by omega,h⟩ (by cbv)
   replace h:=ite_f (Int.not_lt.2 e) h
   clear e
   try cbv
   exact join_next (m2,false) [1,2,6,15,16,17,18] [] 320 ⟨by omega,h⟩ (by cbv)
  clear h
  rintro⟨m3,b8⟩ ⟨hm3,h⟩
  try cbv
  replace hm3:m3<=m2:=hm3
  obtain _ | m3:=m3
  ·replace h:L119_3 0 l1 l2 z6 z7 b8=some r1:=h
   rw[L119_3]at h
   cases h
  replace h:L119_3 (m3+1) l1 l2 z6 z7 b8=some r1:=h
  rw[L119_3]at h
  try cbv
  refine seq_go ?_
  try cbv
  cases b8
  ·replace h:=itF h
   try cbv
   refine seq_go ?_
   try cbv
   obtain rfl:=Option.some.inj h
   refine fin_go ?_
   try cbv
   exact⟨[],by trivial⟩
  replace h:=itT h
  try cbv
  refine seq_go ?_
  try cbv
  refine seq_go ?_
  try cbv
  replace h:=getF_inv h
  obtain⟨x9,⟨hx0,hx⟩,h⟩:=h
  refine⟨x9,hx0,hx,?_⟩
  clear hx0 hx
  replace h:=ds_t50_inv h
  obtain⟨z10,s11,s12,l13,z14,s15,l16,z17,s18,l19,l20,l21,l22,l23,z24,rfl,h⟩:=h
  try cbv
  refine seq_go ?_
  try cbv
  replace h:=getF_inv h
  obtain⟨x25,⟨hx0,hx⟩,h⟩:=h
  refine⟨x25,hx0,hx,?_⟩
  clear hx0 hx
  replace h:=ds_t50_inv h
  obtain⟨z26,s27,s28,l29,z30,s31,l32,z33,s34,l35,l36,l37,l38,l39,z40,rfl,h⟩:=h
  try cbv
  refine seq_go ?_
  try cbv
  replace h:=bO1_inv h
  obtain⟨b41,hr,h⟩:=h
  refine call_go rfl rfl ?_
  try cbv
  refine call_pure hM hI ((ih _ (by omega)).2.2.1 hr) rfl ?_
  clear hr
  try cbv
  replace h:=letB_inv h
  obtain⟨b42,hz,h⟩:=h
  refine⟨b42,not_eq' hz,?_⟩
  clear hz
  try cbv
  cases b42
  ·replace h:=itF h
   try cbv
   replace h:=letF_inv h
   obtain⟨z43,hz,h⟩:=h
   refine⟨z43,hz,?_⟩
   clear hz
   try cbv
   exact loop_next (m3,z43) [1,2,6,15,16,17] [] 288 ⟨by omega,h⟩ (Nat.lt_succ_of_le (by omega)) (by cbv)
  replace h:=itT h
  try cbv
  refine seq_go ?_
  try cbv
  obtain rfl:=Option.some.inj h
  refine fin_go ?_
  try cbv
  exact⟨[],by trivial⟩
 intro l1 l2 r1 h
 rw[F63]at h
 refine Trip.of tab_ok tab_one fol Tryz.func63 rfl (by kernel_rfl) rfl rfl rfl (fun M hM hI=>?_)
 try cbv
 refine seq_go ?_
 try cbv
 refine seq_go ?_
 try cbv
 replace h:=bO1_inv h
 obtain⟨b3,hr,h⟩:=h
 refine call_go rfl rfl ?_
 try cbv
 refine call_pure hM hI ((ih _ (by omega)).2.2.2.1 hr) rfl ?_
 clear hr
 try cbv
 obtain rfl:=Option.some.inj h
 refine fin_go ?_
 try cbv
 exact⟨[],by trivial⟩
theorem T63 (n:Nat):∀⦃l1 l2 r1⦄,F63 n l1 l2=some r1->
  Trip Tryz.prog inv 63 [.d (.list true 15 l1),.d (.list true 15 l2)] [] (.v (.d (.bool r1))) [] []:=(G141 n).2.2.2.2
def F65 (n:Nat) (s1:BA) (z2:Int) (s3:BA) (l4:LD) (s5:BA) (z6:Int) (s7:BA) (l8:LD):Option (Bool):=
 (if s1=s5 then bO1 (F61 n z2 s3 l4 z6 s7 l8) fun b9=>some b9 else some false)
theorem T65 (n:Nat):∀⦃s1 z2 s3 l4 s5 z6 s7 l8 r1⦄,F65 n s1 z2 s3 l4 s5 z6 s7 l8=some r1->
    Trip Tryz.prog inv 65 [.d (.agg [.str s1,.int .u8 z2,.str s3,.list true 3 l4]),.d (.agg [.str s5,.int .u8 z6,.str s7,.list true 3 l8])] [] (.v (.d (.bool r1))) [] []:=by
 intro s1 z2 s3 l4 s5 z6 s7 l8 r1 h
 unfold F65 at h
 refine Trip.of tab_ok tab_one fol Tryz.func65 rfl (by kernel_rfl) rfl rfl rfl (fun M hM hI=>?_)
 try cbv
 refine seq_go ?_
 try cbv
 refine seq_go ?_
 try cbv
 refine splitS (fun e=>?_) (fun e=>?_)
 ·replace h:=ite_t (bytes_eq.1 e) h
  clear e
  try cbv
  replace h:=bO1_inv h
  obtain⟨b9,hr,h⟩:=h
  refine call_go rfl rfl ?_
  try cbv
  refine call_pure hM hI (T61 _ hr) rfl ?_
  clear hr
  try cbv
  obtain rfl:=Option.some.inj h
  refine fin_go ?_
  try cbv
  exact⟨[],by trivial⟩
 replace h:=ite_f (bytes_ne.1 e) h
 clear e
 try cbv
 obtain rfl:=Option.some.inj h
 refine fin_go ?_
 try cbv
 exact⟨[],by trivial⟩
mutual
def L64_2:Nat->LD->LD->Int->Int->Option (Bool)
 | 0,_,_,_,_=>none
 | n+1,l1,l2,z6,z7=>
  (if z7<z6 then L64_3 n l1 l2 z6 z7 true else L64_3 n l1 l2 z6 z7 false)
def L64_3:Nat->LD->LD->Int->Int->Bool->Option (Bool)
 | 0,_,_,_,_,_=>none
 | n+1,l1,l2,z6,z7,b8=>
  (if b8=true then getF l1 z7 fun x9=>ds_t74 x9 fun s10 z11 s12 l13=>getF l2 z7 fun x14=>ds_t74 x14 fun s15 z16 s17 l18=>bO1 (F65 n s10 z11 s12 l13 s15 z16 s17 l18) fun b19=>letB (!b19) fun b20=>(if b20=true then some false else letF (IntKind.wrap .i64 (z7+1)) fun z21=>L64_2 n l1 l2 z6 z21)else some true)
end
def L64_1:Nat->LD->LD->Bool->Option (Bool)
 | 0,_,_,_=>none
 | n+1,l1,l2,b5=>
  (if b5=true then some false else lenF l1 fun z6=>L64_2 n l1 l2 z6 (0:Int))
def F64 (n:Nat) (l1:LD) (l2:LD):Option (Bool):=
 lenF l1 fun z3=>lenF l2 fun z4=>(if z3=z4 then L64_1 n l1 l2 false else L64_1 n l1 l2 true)
theorem T64 (n:Nat):∀⦃l1 l2 r1⦄,F64 n l1 l2=some r1->
    Trip Tryz.prog inv 64 [.d (.list true 4 l1),.d (.list true 4 l2),.c (.fn 65 [])] [] (.v (.d (.bool r1))) [] []:=by
 intro l1 l2 r1 h
 unfold F64 at h
 refine Trip.of tab_ok tab_one fol Tryz.func64 rfl (by kernel_rfl) rfl rfl rfl (fun M hM hI=>?_)
 try cbv
 refine seq_go ?_
 try cbv
 refine seq_go ?_
 try cbv
 refine seq_joinB 14 [0,1,2,6,14] [] 192 (fun m b=>m<=n/\L64_1 m l1 l2 b=some r1) ?_ ?_
 ·try cbv
  replace h:=lenF_inv M h
  obtain⟨z3,hz,h⟩:=h
  refine⟨z3,hz,?_⟩
  clear hz
  try cbv
  replace h:=lenF_inv M h
  obtain⟨z4,hz,h⟩:=h
  refine⟨z4,hz,?_⟩
  clear hz
  try cbv
  refine splitI (fun e=>?_) (fun e=>?_)
  ·replace h:=ite_t e h
   clear e
   try cbv
   exact join_next (n,false) [0,1,2,6,14] [] 192 ⟨by omega,h⟩ (by cbv)
  replace h:=ite_f e h
  clear e
  try cbv
  exact join_next (n,true) [0,1,2,6,14] [] 192 ⟨by omega,h⟩ (by cbv)
 clear h
 rintro⟨m1,b5⟩ ⟨hm1,h⟩
 try cbv
 replace hm1:m1<=n:=hm1
 obtain _ | m1:=m1
 ·replace h:L64_1 0 l1 l2 b5=some r1:=h
  rw[L64_1]at h
  cases h
 replace h:L64_1 (m1+1) l1 l2 b5=some r1:=h
 rw[L64_1]at h
 try cbv
 cases b5
 rotate_left
 ·replace h:=itT h
  try cbv
  refine seq_go ?_
  try cbv
  obtain rfl:=Option.some.inj h
  refine fin_go ?_
  try cbv
  exact⟨[],by trivial⟩
 replace h:=itF h
 try cbv
 refine seq_go ?_
 try cbv
 refine seq_go ?_
 try cbv
 replace h:=lenF_inv M h
 obtain⟨z6,hz,h⟩:=h
 refine⟨z6,hz,?_⟩
 clear hz
 try cbv
 refine loop_inv (T:=Nat×Int) [1,2,6,15,16,17] [] 288 (fun t=>⟨[sT 1 4 l2,(2,.v (.c (.fn 65 []))),sB 6 false,sT 15 4 l1,sI 16 z6,sI 17 t.2],[],288⟩)
   (fun t=>t.1<=m1/\L64_2 t.1 l1 l2 z6 t.2=some r1) (fun t=>t.1) (m1,(0:Int)) ⟨Nat.le_refl _,h⟩ (by cbv) ?_
 clear h
 rintro⟨m2,z7⟩ ⟨hm2,h⟩
 replace hm2:m2<=m1:=hm2
 obtain _ | m2:=m2
 ·replace h:L64_2 0 l1 l2 z6 z7=some r1:=h
  rw[L64_2]at h
  cases h
 replace h:L64_2 (m2+1) l1 l2 z6 z7=some r1:=h
 rw[L64_2]at h
 try cbv
 refine seq_joinB 18 [1,2,6,15,16,17,18] [] 320 (fun m b=>m<=m2/\L64_3 m l1 l2 z6 z7 b=some r1) ?_ ?_
 ·try cbv
  refine splitL (fun e=>?_) (fun e=>?_)
  ·replace h:=ite_t e h
   clear e
   try cbv
   exact join_next (m2,true) [1,2,6,15,16,17,18] [] 320 ⟨by omega,h⟩ (by cbv)
  replace h:=ite_f (Int.not_lt.2 e) h
  clear e
  try cbv
  exact join_next (m2,false) [1,2,6,15,16,17,18] [] 320 ⟨by omega,h⟩ (by cbv)
 clear h
 rintro⟨m3,b8⟩ ⟨hm3,h⟩
 try cbv
 replace hm3:m3<=m2:=hm3
 obtain _ | m3:=m3
 ·replace h:L64_3 0 l1 l2 z6 z7 b8=some r1:=h
  rw[L64_3]at h
  cases h
 replace h:L64_3 (m3+1) l1 l2 z6 z7 b8=some r1:=h
 rw[L64_3]at h
 try cbv
 refine seq_go ?_
 try cbv
 cases b8
 ·replace h:=itF h
  try cbv
  refine seq_go ?_
  try cbv
  obtain rfl:=Option.some.inj h
  refine fin_go ?_
  try cbv
  exact⟨[],by trivial⟩
 replace h:=itT h
 try cbv
 refine seq_go ?_
 try cbv
 refine seq_go ?_
 try cbv
 replace h:=getF_inv h
 obtain⟨x9,⟨hx0,hx⟩,h⟩:=h
 refine⟨x9,hx0,hx,?_⟩
 clear hx0 hx
 replace h:=ds_t74_inv h
 obtain⟨s10,z11,s12,l13,rfl,h⟩:=h
 try cbv
 refine seq_go ?_
 try cbv
 replace h:=getF_inv h
 obtain⟨x14,⟨hx0,hx⟩,h⟩:=h
 refine⟨x14,hx0,hx,?_⟩
 clear hx0 hx
 replace h:=ds_t74_inv h
 obtain⟨s15,z16,s17,l18,rfl,h⟩:=h
 try cbv
 refine seq_go ?_
 try cbv
 replace h:=bO1_inv h
 obtain⟨b19,hr,h⟩:=h
 refine call_go rfl rfl ?_
 try cbv
 refine call_pure hM hI (T65 _ hr) rfl ?_
 clear hr
 try cbv
 replace h:=letB_inv h
 obtain⟨b20,hz,h⟩:=h
 refine⟨b20,not_eq' hz,?_⟩
 clear hz
 try cbv
 cases b20
 ·replace h:=itF h
  try cbv
  replace h:=letF_inv h
  obtain⟨z21,hz,h⟩:=h
  refine⟨z21,hz,?_⟩
  clear hz
  try cbv
  exact loop_next (m3,z21) [1,2,6,15,16,17] [] 288 ⟨by omega,h⟩ (Nat.lt_succ_of_le (by omega)) (by cbv)
 replace h:=itT h
 try cbv
 refine seq_go ?_
 try cbv
 obtain rfl:=Option.some.inj h
 refine fin_go ?_
 try cbv
 exact⟨[],by trivial⟩
def F60 (n:Nat) (z1:Int) (s2:BA) (l3:LD) (z4:Int) (s5:BA) (l6:LD) (l7:LD) (z8:Int) (z9:Int) (s10:BA) (s11:BA) (s12:BA) (l13:LD) (l14:LD) (z15:Int) (z16:Int) (z17:Int) (s18:BA) (l19:LD) (z20:Int) (s21:BA) (l22:LD) (l23:LD) (z24:Int) (z25:Int) (s26:BA) (s27:BA) (s28:BA) (l29:LD) (l30:LD) (z31:Int) (z32:Int):Option (Bool):=
 (if z1=z17 then (if s2=s18 then bO1 (F61 n z4 s5 l6 z20 s21 l22) fun b33=>(if b33=true then bO1 (F62 n z8 z9 s10 s11 s12 l13 l14 z15 z24 z25 s26 s27 s28 l29 l30 z31) fun b34=>(if b34=true then bO1 (F63 n l7 l23) fun b35=>(if b35=true then bO1 (F64 n l3 l19) fun b36=>some b36 else some false)else some false)else some false)else some false)else some false)
theorem T60 (n:Nat):∀⦃z1 s2 l3 z4 s5 l6 l7 z8 z9 s10 s11 s12 l13 l14 z15 z16 z17 s18 l19 z20 s21 l22 l23 z24 z25 s26 s27 s28 l29 l30 z31 z32 r1⦄,F60 n z1 s2 l3 z4 s5 l6 l7 z8 z9 s10 s11 s12 l13 l14 z15 z16 z17 s18 l19 z20 s21 l22 l23 z24 z25 s26 s27 s28 l29 l30 z31 z32=some r1->
    Trip Tryz.prog inv 60 [.d (.agg [.int .u8 z1,.str s2,.list true 4 l3,.int .u8 z4,.str s5,.list true 3 l6,.list true 15 l7,.int .u8 z8,.int .i64 z9,.str s10,.str s11,.str s12,.list false 1 l13,.list true 8 l14,.int .i64 z15,.int .i64 z16]),.d (.agg [.int .u8 z17,.str s18,.list true 4 l19,.int .u8 z20,.str s21,.list true 3 l22,.list true 15 l23,.int .u8 z24,.int .i64 z25,.str s26,.str s27,.str s28,.list false 1 l29,.list true 8 l30,.int .i64 z31,.int .i64 z32])] [] (.v (.d (.bool r1))) [] []:=by
 intro z1 s2 l3 z4 s5 l6 l7 z8 z9 s10 s11 s12 l13 l14 z15 z16 z17 s18 l19 z20 s21 l22 l23 z24 z25 s26 s27 s28 l29 l30 z31 z32 r1 h
 unfold F60 at h
 refine Trip.of tab_ok tab_one fol Tryz.func60 rfl (by kernel_rfl) rfl rfl rfl (fun M hM hI=>?_)
 try cbv
 refine seq_go ?_
 try cbv
 refine seq_go ?_
 try cbv
 refine splitI (fun e=>?_) (fun e=>?_)
 rotate_left
 ·replace h:=ite_f e h
  clear e
  try cbv
  obtain rfl:=Option.some.inj h
  refine fin_go ?_
  try cbv
  exact⟨[],by trivial⟩
 replace h:=ite_t e h
 clear e
 try cbv
 refine splitS (fun e=>?_) (fun e=>?_)
 rotate_left
 ·replace h:=ite_f (bytes_ne.1 e) h
  clear e
  try cbv
  obtain rfl:=Option.some.inj h
  refine fin_go ?_
  try cbv
  exact⟨[],by trivial⟩
 replace h:=ite_t (bytes_eq.1 e) h
 clear e
 try cbv
 replace h:=bO1_inv h
 obtain⟨b33,hr,h⟩:=h
 refine call_go rfl rfl ?_
 try cbv
 refine call_pure hM hI (T61 _ hr) rfl ?_
 clear hr
 try cbv
 cases b33
 ·replace h:=itF h
  try cbv
  obtain rfl:=Option.some.inj h
  refine fin_go ?_
  try cbv
  exact⟨[],by trivial⟩
 replace h:=itT h
 try cbv
 replace h:=bO1_inv h
 obtain⟨b34,hr,h⟩:=h
 refine call_go rfl rfl ?_
 try cbv
 refine call_pure hM hI (T62 _ hr) rfl ?_
 clear hr
 try cbv
 cases b34
 ·replace h:=itF h
  try cbv
  obtain rfl:=Option.some.inj h
  refine fin_go ?_
  try cbv
  exact⟨[],by trivial⟩
 replace h:=itT h
 try cbv
 replace h:=bO1_inv h
 obtain⟨b35,hr,h⟩:=h
 refine call_go rfl rfl ?_
 try cbv
 refine call_pure hM hI (T63 _ hr) rfl ?_
 clear hr
 try cbv
 cases b35
 ·replace h:=itF h
  try cbv
  obtain rfl:=Option.some.inj h
  refine fin_go ?_
  try cbv
  exact⟨[],by trivial⟩
 replace h:=itT h
 try cbv
 replace h:=bO1_inv h
 obtain⟨b36,hr,h⟩:=h
 refine call_go rfl rfl ?_
 try cbv
 refine call_pure hM hI (T64 _ hr) rfl ?_
 clear hr
 try cbv
 obtain rfl:=Option.some.inj h
 refine fin_go ?_
 try cbv
 exact⟨[],by trivial⟩
mutual
def L59_2:Nat->LD->LD->Int->Int->Option (Bool)
 | 0,_,_,_,_=>none
 | n+1,l1,l2,z6,z7=>
  (if z7<z6 then L59_3 n l1 l2 z6 z7 true else L59_3 n l1 l2 z6 z7 false)
def L59_3:Nat->LD->LD->Int->Int->Bool->Option (Bool)
 | 0,_,_,_,_,_=>none
 | n+1,l1,l2,z6,z7,b8=>
  (if b8=true then getF l1 z7 fun x9=>ds_t45 x9 fun z10 s11 l12 z13 s14 l15 l16 z17 z18 s19 s20 s21 l22 l23 z24 z25=>getF l2 z7 fun x26=>ds_t45 x26 fun z27 s28 l29 z30 s31 l32 l33 z34 z35 s36 s37 s38 l39 l40 z41 z42=>bO1 (F60 n z10 s11 l12 z13 s14 l15 l16 z17 z18 s19 s20 s21 l22 l23 z24 z25 z27 s28 l29 z30 s31 l32 l33 z34 z35 s36 s37 s38 l39 l40 z41 z42) fun b43=>letB (!b43) fun b44=>(if b44=true then some false else letF (IntKind.wrap .i64 (z7+1)) fun z45=>L59_2 n l1 l2 z6 z45)else some true)
end
def L59_1:Nat->LD->LD->Bool->Option (Bool)
 | 0,_,_,_=>none
 | n+1,l1,l2,b5=>
  (if b5=true then some false else lenF l1 fun z6=>L59_2 n l1 l2 z6 (0:Int))
def F59 (n:Nat) (l1:LD) (l2:LD):Option (Bool):=
 lenF l1 fun z3=>lenF l2 fun z4=>(if z3=z4 then L59_1 n l1 l2 false else L59_1 n l1 l2 true)
theorem T59 (n:Nat):∀⦃l1 l2 r1⦄,F59 n l1 l2=some r1->
    Trip Tryz.prog inv 59 [.d (.list true 16 l1),.d (.list true 16 l2),.c (.fn 60 [])] [] (.v (.d (.bool r1))) [] []:=by
 intro l1 l2 r1 h
 unfold F59 at h
 refine Trip.of tab_ok tab_one fol Tryz.func59 rfl (by kernel_rfl) rfl rfl rfl (fun M hM hI=>?_)
 try cbv
 refine seq_go ?_
 try cbv
 refine seq_go ?_
 try cbv
 refine seq_joinB 14 [0,1,2,6,14] [] 192 (fun m b=>m<=n/\L59_1 m l1 l2 b=some r1) ?_ ?_
 ·try cbv
  replace h:=lenF_inv M h
  obtain⟨z3,hz,h⟩:=h
  refine⟨z3,hz,?_⟩
  clear hz
  try cbv
  replace h:=lenF_inv M h
  obtain⟨z4,hz,h⟩:=h
  refine⟨z4,hz,?_⟩
  clear hz
  try cbv
  refine splitI (fun e=>?_) (fun e=>?_)
  ·replace h:=ite_t e h
   clear e
   try cbv
   exact join_next (n,false) [0,1,2,6,14] [] 192 ⟨by omega,h⟩ (by cbv)
  replace h:=ite_f e h
  clear e
  try cbv
  exact join_next (n,true) [0,1,2,6,14] [] 192 ⟨by omega,h⟩ (by cbv)
 clear h
 rintro⟨m1,b5⟩ ⟨hm1,h⟩
 try cbv
 replace hm1:m1<=n:=hm1
 obtain _ | m1:=m1
 ·replace h:L59_1 0 l1 l2 b5=some r1:=h
  rw[L59_1]at h
  cases h
 replace h:L59_1 (m1+1) l1 l2 b5=some r1:=h
 rw[L59_1]at h
 try cbv
 cases b5
 rotate_left
 ·replace h:=itT h
  try cbv
  refine seq_go ?_
  try cbv
  obtain rfl:=Option.some.inj h
  refine fin_go ?_
  try cbv
  exact⟨[],by trivial⟩
 replace h:=itF h
 try cbv
 refine seq_go ?_
 try cbv
 refine seq_go ?_
 try cbv
 replace h:=lenF_inv M h
 obtain⟨z6,hz,h⟩:=h
 refine⟨z6,hz,?_⟩
 clear hz
 try cbv
 refine loop_inv (T:=Nat×Int) [1,2,6,15,16,17] [] 288 (fun t=>⟨[sT 1 16 l2,(2,.v (.c (.fn 60 []))),sB 6 false,sT 15 16 l1,sI 16 z6,sI 17 t.2],[],288⟩)
   (fun t=>t.1<=m1/\L59_2 t.1 l1 l2 z6 t.2=some r1) (fun t=>t.1) (m1,(0:Int)) ⟨Nat.le_refl _,h⟩ (by cbv) ?_
 clear h
 rintro⟨m2,z7⟩ ⟨hm2,h⟩
 replace hm2:m2<=m1:=hm2
 obtain _ | m2:=m2
 ·replace h:L59_2 0 l1 l2 z6 z7=some r1:=h
  rw[L59_2]at h
  cases h
 replace h:L59_2 (m2+1) l1 l2 z6 z7=some r1:=h
 rw[L59_2]at h
 try cbv
 refine seq_joinB 18 [1,2,6,15,16,17,18] [] 320 (fun m b=>m<=m2/\L59_3 m l1 l2 z6 z7 b=some r1) ?_ ?_
 ·try cbv
  refine splitL (fun e=>?_) (fun e=>?_)
  ·replace h:=ite_t e h
   clear e
   try cbv
   exact join_next (m2,true) [1,2,6,15,16,17,18] [] 320 ⟨by omega,h⟩ (by cbv)
  replace h:=ite_f (Int.not_lt.2 e) h
  clear e
  try cbv
  exact join_next (m2,false) [1,2,6,15,16,17,18] [] 320 ⟨by omega,h⟩ (by cbv)
 clear h
 rintro⟨m3,b8⟩ ⟨hm3,h⟩
 try cbv
 replace hm3:m3<=m2:=hm3
 obtain _ | m3:=m3
 ·replace h:L59_3 0 l1 l2 z6 z7 b8=some r1:=h
  rw[L59_3]at h
  cases h
 replace h:L59_3 (m3+1) l1 l2 z6 z7 b8=some r1:=h
 rw[L59_3]at h
 try cbv
 refine seq_go ?_
 try cbv
 cases b8
 ·replace h:=itF h
  try cbv
  refine seq_go ?_
  try cbv
  obtain rfl:=Option.some.inj h
  refine fin_go ?_
  try cbv
  exact⟨[],by trivial⟩
 replace h:=itT h
 try cbv
 refine seq_go ?_
 try cbv
 refine seq_go ?_
 try cbv
 replace h:=getF_inv h
 obtain⟨x9,⟨hx0,hx⟩,h⟩:=h
 refine⟨x9,hx0,hx,?_⟩
 clear hx0 hx
 replace h:=ds_t45_inv h
 obtain⟨z10,s11,l12,z13,s14,l15,l16,z17,z18,s19,s20,s21,l22,l23,z24,z25,rfl,h⟩:=h
 try cbv
 refine seq_go ?_
 try cbv
 replace h:=getF_inv h
 obtain⟨x26,⟨hx0,hx⟩,h⟩:=h
 refine⟨x26,hx0,hx,?_⟩
 clear hx0 hx
 replace h:=ds_t45_inv h
 obtain⟨z27,s28,l29,z30,s31,l32,l33,z34,z35,s36,s37,s38,l39,l40,z41,z42,rfl,h⟩:=h
 try cbv
 refine seq_go ?_
 try cbv
 replace h:=bO1_inv h
 obtain⟨b43,hr,h⟩:=h
 refine call_go rfl rfl ?_
 try cbv
 refine call_pure hM hI (T60 _ hr) rfl ?_
 clear hr
 try cbv
 replace h:=letB_inv h
 obtain⟨b44,hz,h⟩:=h
 refine⟨b44,not_eq' hz,?_⟩
 clear hz
 try cbv
 cases b44
 ·replace h:=itF h
  try cbv
  replace h:=letF_inv h
  obtain⟨z45,hz,h⟩:=h
  refine⟨z45,hz,?_⟩
  clear hz
  try cbv
  exact loop_next (m3,z45) [1,2,6,15,16,17] [] 288 ⟨by omega,h⟩ (Nat.lt_succ_of_le (by omega)) (by cbv)
 replace h:=itT h
 try cbv
 refine seq_go ?_
 try cbv
 obtain rfl:=Option.some.inj h
 refine fin_go ?_
 try cbv
 exact⟨[],by trivial⟩
def F25 (n:Nat) (l1:LD) (l2:LD):Option (Bool):=
 bO1 (F59 n l1 l2) fun b3=>some b3
theorem T25 (n:Nat):∀⦃l1 l2 r1⦄,F25 n l1 l2=some r1->
    Trip Tryz.prog inv 25 [.d (.agg [.list true 16 l1]),.d (.agg [.list true 16 l2])] [] (.v (.d (.bool r1))) [] []:=by
 intro l1 l2 r1 h
 unfold F25 at h
 refine Trip.of tab_ok tab_one fol Tryz.func25 rfl (by kernel_rfl) rfl rfl rfl (fun M hM hI=>?_)
 try cbv
 refine seq_go ?_
 try cbv
 refine seq_go ?_
 try cbv
 replace h:=bO1_inv h
 obtain⟨b3,hr,h⟩:=h
 refine call_go rfl rfl ?_
 try cbv
 refine call_pure hM hI (T59 _ hr) rfl ?_
 clear hr
 try cbv
 obtain rfl:=Option.some.inj h
 refine fin_go ?_
 try cbv
 exact⟨[],by trivial⟩
def L17_1:Nat->LD->LD->LD->Bool->Option (Bool)
 | 0,_,_,_,_=>none
 | n+1,l1,l20,l21,b23=>
  (if b23=true then some false else bO1 (F10 n ([]:LD)) fun b24=>(if b24=true then bO1 (F10 n l1) fun b25=>(if b25=true then bO1 (F12 n l1) fun z26=>(if z26=(3:Int)then bO1 (F14 n l1) fun z27=>(if z27=(2:Int)then bO1 (F12 n ([]:LD)) fun z28=>(if z28=(1:Int)then bO1 (F21 n (1:Int) ByteArray.empty ([]:LD)) fun b29=>(if b29=true then bO1 (F21 n (5:Int) ByteArray.empty ([]:LD)) fun b30=>letB (!b30) fun b31=>(if b31=true then bO1 (F21 n (1:Int) k_T ([]:LD)) fun b32=>letB (!b32) fun b33=>(if b33=true then bO1 (F20 n (1:Int) (-1:Int) ByteArray.empty ByteArray.empty ByteArray.empty ([]:LD) ([]:LD) (0:Int)) fun b34=>letB (!b34) fun b35=>(if b35=true then bO1 (F20 n (5:Int) (0:Int) ByteArray.empty ByteArray.empty k_x ([]:LD) ([]:LD) (0:Int)) fun b36=>letB (!b36) fun b37=>(if b37=true then bO1 (F20 n (18:Int) (0:Int) k_f ByteArray.empty ByteArray.empty ([]:LD) ([.agg [.int .u8 5,.int .i64 0,.str ByteArray.empty,.str ByteArray.empty,.str k_x,.list false 1 [],.list true 8 [],.int .i64 0]]) (0:Int)) fun b38=>(if b38=true then bO1 (F52 n k_x ([.str k_a,.str k__])) fun b39=>(if b39=true then bO1 (F52 n k_X ([]:LD)) fun b40=>letB (!b40) fun b41=>(if b41=true then bO1 (F25 n l1 l20) fun b42=>(if b42=true then getF l21 0 fun x43=>ds_t45 x43 fun z44 s45 l46 z47 s48 l49 l50 z51 z52 s53 s54 s55 l56 l57 z58 z59=>(if z59=(0:Int)then some true else some false)else some false)else some false)else some false)else some false)else some false)else some false)else some false)else some false)else some false)else some false)else some false)else some false)else some false)else some false))
def F17 (n:Nat):Option (Bool):=
 bO1 (F22 n) fun l1=>bO1 (F22 n) fun l2=>needF (0<=(0:Int)/\(0:Int).toNat<l2.length) (getN l2 ((0:Int).toNat) fun x3=>ds_t45 x3 fun z4 s5 l6 z7 s8 l9 l10 z11 z12 s13 s14 s15 l16 l17 z18 z19=>setF l2 ((0:Int).toNat) (.agg [.int .u8 z4,.str s5,.list true 4 l6,.int .u8 z7,.str s8,.list true 3 l9,.list true 15 l10,.int .u8 z11,.int .i64 z12,.str s13,.str s14,.str s15,.list false 1 l16,.list true 8 l17,.int .i64 z18,.int .i64 7]) fun l20=>bO1 (F24 n l20) fun l21=>lenF l21 fun z22=>(if z22=(1:Int)then L17_1 n l1 l20 l21 false else L17_1 n l1 l20 l21 true))
theorem T17 (n:Nat):∀⦃r1⦄,F17 n=some r1->
    Trip Tryz.prog inv 17 [] [] (.v (.d (.bool r1))) [] []:=by
 intro r1 h
 unfold F17 at h
 refine Trip.of tab_ok tab_one fol Tryz.func17 rfl (by kernel_rfl) rfl rfl rfl (fun M hM hI=>?_)
 try cbv
 refine seq_go ?_
 try cbv
 refine seq_go ?_
 try cbv
 replace h:=bO1_inv h
 obtain⟨l1,hr,h⟩:=h
 refine call_go rfl rfl ?_
 try cbv
 refine call_with hM hI [] (T22 _ hr) rfl (by simp) trivial trivial (by simp) ?_
 clear hr
 try cbv
 refine seq_go ?_
 try cbv
 replace h:=bO1_inv h
 obtain⟨l2,hr,h⟩:=h
 refine call_go rfl rfl ?_
 try cbv
 refine call_with hM hI [] (T22 _ hr) rfl (by simp) trivial trivial (by simp) ?_
 clear hr
 try cbv
 refine seq_go ?_
 try cbv
 replace h:=needF_inv h
 obtain⟨hn,h⟩:=h
 refine⟨(M.lock_iff _).2 hn,?_⟩
 clear hn
 try cbv
 refine⟨[],?_⟩
 try cbv
 replace h:=getN_inv h
 obtain⟨x3,hx,h⟩:=h
 replace h:=ds_t45_inv h
 obtain⟨z4,s5,l6,z7,s8,l9,l10,z11,z12,s13,s14,s15,l16,l17,z18,z19,rfl,h⟩:=h
 refine⟨_,hx,?_⟩
 clear hx
 try cbv
 refine seq_go ?_
 try cbv
 refine seq_go ?_
 try cbv
 replace h:=setF_inv h
 obtain⟨l20,hl20,h⟩:=h
 replace h:=bO1_inv h
 obtain⟨l21,hr,h⟩:=h
 refine call_gs [.close (.loc 128),.freeze (.loc 128)] rfl rfl ?_
 try cbv
 refine⟨l20,hl20,?_⟩
 clear hl20
 try cbv
 first | refine⟨(rfl:(_:Nat)=_),?_⟩ | refine⟨True.intro,?_⟩ | skip
 refine callfv_with hM hI [] rfl rfl (T24 _ hr) rfl (by simp) trivial trivial (by simp) ?_
 clear hr
 try cbv
 refine seq_go ?_
 try cbv
 refine seq_joinB 18 [0,1,2,3,4,18] [.loc 64,.loc 32,.loc 160,.loc 448,.loc 576] 768 (fun m b=>m<=n/\L17_1 m l1 l20 l21 b=some r1) ?_ ?_
 ·try cbv
  replace h:=lenF_inv M h
  obtain⟨z22,hz,h⟩:=h
  refine⟨z22,hz,?_⟩
  clear hz
  try cbv
  refine splitI (fun e=>?_) (fun e=>?_)
  ·replace h:=ite_t e h
   clear e
   try cbv
   exact join_next (n,false) [0,1,2,3,4,18] [.loc 64,.loc 32,.loc 160,.loc 448,.loc 576] 768 ⟨by omega,h⟩ (by cbv)
  replace h:=ite_f e h
  clear e
  try cbv
  exact join_next (n,true) [0,1,2,3,4,18] [.loc 64,.loc 32,.loc 160,.loc 448,.loc 576] 768 ⟨by omega,h⟩ (by cbv)
 clear h
 rintro⟨m1,b23⟩ ⟨hm1,h⟩
 try cbv
 replace hm1:m1<=n:=hm1
 obtain _ | m1:=m1
 ·replace h:L17_1 0 l1 l20 l21 b23=some r1:=h
  rw[L17_1]at h
  cases h
 replace h:L17_1 (m1+1) l1 l20 l21 b23=some r1:=h
 rw[L17_1]at h
 try cbv
 cases b23
 rotate_left
 ·replace h:=itT h
  try cbv
  refine seq_go ?_
  try cbv
  obtain rfl:=Option.some.inj h
  refine fin_go ?_
  try cbv
  exact⟨[],by trivial⟩
 replace h:=itF h
 try cbv
 refine seq_go ?_
 try cbv
 replace h:=bO1_inv h
 obtain⟨b24,hr,h⟩:=h
 refine call_go rfl rfl ?_
 try cbv
 refine call_pure hM hI (T10 _ hr) rfl ?_
 clear hr
 try cbv
 cases b24
 ·replace h:=itF h
  try cbv
  obtain rfl:=Option.some.inj h
  refine fin_go ?_
  try cbv
  exact⟨[],by trivial⟩
 replace h:=itT h
 try cbv
 replace h:=bO1_inv h
 obtain⟨b25,hr,h⟩:=h
 refine call_gs [.freeze (.loc 32)] rfl rfl ?_
 try cbv
 first | refine⟨(rfl:(_:Nat)=_),?_⟩ | refine⟨True.intro,?_⟩ | skip
 refine callfv_with hM hI [] rfl rfl (T10 _ hr) rfl (by simp) trivial trivial (by simp) ?_
 clear hr
 try cbv
 cases b25
 ·replace h:=itF h
  try cbv
  obtain rfl:=Option.some.inj h
  refine fin_go ?_
  try cbv
  exact⟨[],by trivial⟩
 replace h:=itT h
 try cbv
 replace h:=bO1_inv h
 obtain⟨z26,hr,h⟩:=h
 refine call_go rfl rfl ?_
 try cbv
 refine call_pure hM hI (T12 _ hr) rfl ?_
 clear hr
 try cbv
 refine splitI (fun e=>?_) (fun e=>?_)
 rotate_left
 ·replace h:=ite_f e h
  clear e
  try cbv
  obtain rfl:=Option.some.inj h
  refine fin_go ?_
  try cbv
  exact⟨[],by trivial⟩
 replace h:=ite_t e h
 clear e
 try cbv
 replace h:=bO1_inv h
 obtain⟨z27,hr,h⟩:=h
 refine call_go rfl rfl ?_
 try cbv
 refine call_pure hM hI (T14 _ hr) rfl ?_
 clear hr
 try cbv
 refine splitI (fun e=>?_) (fun e=>?_)
 rotate_left
 ·replace h:=ite_f e h
  clear e
  try cbv
  obtain rfl:=Option.some.inj h
  refine fin_go ?_
  try cbv
  exact⟨[],by trivial⟩
 replace h:=ite_t e h
 clear e
 try cbv
 replace h:=bO1_inv h
 obtain⟨z28,hr,h⟩:=h
 refine call_go rfl rfl ?_
 try cbv
 refine call_pure hM hI (T12 _ hr) rfl ?_
 clear hr
 try cbv
 refine splitI (fun e=>?_) (fun e=>?_)
 rotate_left
 ·replace h:=ite_f e h
  clear e
  try cbv
  obtain rfl:=Option.some.inj h
  refine fin_go ?_
  try cbv
  exact⟨[],by trivial⟩
 replace h:=ite_t e h
 clear e
 try cbv
 replace h:=bO1_inv h
 obtain⟨b29,hr,h⟩:=h
 refine call_go rfl rfl ?_
 try cbv
 refine call_pure hM hI (T21 _ hr) rfl ?_
 clear hr
 try cbv
 cases b29
 ·replace h:=itF h
  try cbv
  obtain rfl:=Option.some.inj h
  refine fin_go ?_
  try cbv
  exact⟨[],by trivial⟩
 replace h:=itT h
 try cbv
 replace h:=bO1_inv h
 obtain⟨b30,hr,h⟩:=h
 refine call_go rfl rfl ?_
 try cbv
 refine call_pure hM hI (T21 _ hr) rfl ?_
 clear hr
 try cbv
 replace h:=letB_inv h
 obtain⟨b31,hz,h⟩:=h
 refine⟨b31,not_eq' hz,?_⟩
 clear hz
 try cbv
 cases b31
 ·replace h:=itF h
  try cbv
  obtain rfl:=Option.some.inj h
  refine fin_go ?_
  try cbv
  exact⟨[],by trivial⟩
 replace h:=itT h
 try cbv
 replace h:=bO1_inv h
 obtain⟨b32,hr,h⟩:=h
 refine call_go rfl rfl ?_
 try cbv
 refine call_pure hM hI (T21 _ hr) rfl ?_
 clear hr
 try cbv
 replace h:=letB_inv h
 obtain⟨b33,hz,h⟩:=h
 refine⟨b33,not_eq' hz,?_⟩
 clear hz
 try cbv
 cases b33
 ·replace h:=itF h
  try cbv
  obtain rfl:=Option.some.inj h
  refine fin_go ?_
  try cbv
  exact⟨[],by trivial⟩
 replace h:=itT h
 try cbv
 replace h:=bO1_inv h
 obtain⟨b34,hr,h⟩:=h
 refine call_go rfl rfl ?_
 try cbv
 refine call_pure hM hI (T20 _ hr) rfl ?_
 clear hr
 try cbv
 replace h:=letB_inv h
 obtain⟨b35,hz,h⟩:=h
 refine⟨b35,not_eq' hz,?_⟩
 clear hz
 try cbv
 cases b35
 ·replace h:=itF h
  try cbv
  obtain rfl:=Option.some.inj h
  refine fin_go ?_
  try cbv
  exact⟨[],by trivial⟩
 replace h:=itT h
 try cbv
 replace h:=bO1_inv h
 obtain⟨b36,hr,h⟩:=h
 refine call_go rfl rfl ?_
 try cbv
 refine call_pure hM hI (T20 _ hr) rfl ?_
 clear hr
 try cbv
 replace h:=letB_inv h
 obtain⟨b37,hz,h⟩:=h
 refine⟨b37,not_eq' hz,?_⟩
 clear hz
 try cbv
 cases b37
 ·replace h:=itF h
  try cbv
  obtain rfl:=Option.some.inj h
  refine fin_go ?_
  try cbv
  exact⟨[],by trivial⟩
 replace h:=itT h
 try cbv
 refine⟨false,?_⟩
 try cbv
 refine⟨true,?_⟩
 try cbv
 replace h:=bO1_inv h
 obtain⟨b38,hr,h⟩:=h
 refine call_go rfl rfl ?_
 try cbv
 refine call_pure hM hI (T20 _ hr) rfl ?_
 clear hr
 try cbv
 cases b38
 ·replace h:=itF h
  try cbv
  obtain rfl:=Option.some.inj h
  refine fin_go ?_
  try cbv
  exact⟨[],by trivial⟩
 replace h:=itT h
 try cbv
 refine⟨false,?_⟩
 try cbv
 refine⟨true,?_⟩
 try cbv
 replace h:=bO1_inv h
 obtain⟨b39,hr,h⟩:=h
 refine call_go rfl rfl ?_
 try cbv
 refine call_pure hM hI (T52 _ hr) rfl ?_
 clear hr
 try cbv
 cases b39
 ·replace h:=itF h
  try cbv
  obtain rfl:=Option.some.inj h
  refine fin_go ?_
  try cbv
  exact⟨[],by trivial⟩
 replace h:=itT h
 try cbv
 replace h:=bO1_inv h
 obtain⟨b40,hr,h⟩:=h
 refine call_go rfl rfl ?_
 try cbv
 refine call_pure hM hI (T52 _ hr) rfl ?_
 clear hr
 try cbv
 replace h:=letB_inv h
 obtain⟨b41,hz,h⟩:=h
 refine⟨b41,not_eq' hz,?_⟩
 clear hz
 try cbv
 cases b41
 ·replace h:=itF h
  try cbv
  obtain rfl:=Option.some.inj h
  refine fin_go ?_
  try cbv
  exact⟨[],by trivial⟩
 replace h:=itT h
 try cbv
 replace h:=bO1_inv h
 obtain⟨b42,hr,h⟩:=h
 refine call_go rfl rfl ?_
 try cbv
 refine call_pure hM hI (T25 _ hr) rfl ?_
 clear hr
 try cbv
 cases b42
 ·replace h:=itF h
  try cbv
  obtain rfl:=Option.some.inj h
  refine fin_go ?_
  try cbv
  exact⟨[],by trivial⟩
 replace h:=itT h
 try cbv
 replace h:=getF_inv h
 obtain⟨x43,⟨hx0,hx⟩,h⟩:=h
 refine⟨x43,hx0,hx,?_⟩
 clear hx0 hx
 replace h:=ds_t45_inv h
 obtain⟨z44,s45,l46,z47,s48,l49,l50,z51,z52,s53,s54,s55,l56,l57,z58,z59,rfl,h⟩:=h
 try cbv
 refine splitI (fun e=>?_) (fun e=>?_)
 ·replace h:=ite_t e h
  clear e
  try cbv
  obtain rfl:=Option.some.inj h
  refine fin_go ?_
  try cbv
  exact⟨[],by trivial⟩
 replace h:=ite_f e h
 clear e
 try cbv
 obtain rfl:=Option.some.inj h
 refine fin_go ?_
 try cbv
 exact⟨[],by trivial⟩
end Go.Proofs.YtjmofeakajdbiaaGreatDoor
end
namespace Go.AM
open Go
def Ev {α:Type}(A:Nat→Option α) (r:α):Prop:=∃N,∀n,N≤n→A n=some r
section
variable {α β γ:Type}
theorem Ev.ret {r:α}:Ev (fun _=>some r) r:=⟨0,fun _ _=>rfl⟩
theorem Ev.of {A:Nat→Option α}{r:α}(h:∀n,A n=some r):Ev A r:=⟨0,fun n _=>h n⟩
theorem Ev.succ {A:Nat→Option α}{r:α}(h:Ev (fun n=>A (n+1)) r):Ev A r:=by
 obtain⟨N,h⟩:=h
 refine⟨N+1,fun n hn=>?_⟩
 obtain⟨m,rfl⟩:∃m,n=m+1:=⟨n - 1,by omega⟩
 exact h m (by omega)
theorem Ev.congr {A B:Nat→Option α}{r:α}(h:Ev A r) (e:∀n,A n=B n):Ev B r:=by
 obtain⟨N,h⟩:=h
 exact⟨N,fun n hn=>(e n)▸h n hn⟩
theorem Ev.bO0 {A:Nat→Option Unit}{k:Nat→Option γ}{r:γ}(ha:Ev A ()) (hk:Ev k r):Ev (fun n=>bO0 (A n) (k n)) r:=by
 obtain⟨N,ha⟩:=ha
 obtain⟨M,hk⟩:=hk
 refine⟨N+M,fun n hn=>?_⟩
 show Go.AM.bO0 (A n) (k n)=some r
 rw[ha n (by omega)]
 exact hk n (by omega)
theorem Ev.bO1 {A:Nat→Option α}{a:α}{k:Nat→α→Option γ}{r:γ}(ha:Ev A a) (hk:Ev (fun n=>k n a) r):Ev (fun n=>bO1 (A n) (k n)) r:=by
 obtain⟨N,ha⟩:=ha
 obtain⟨M,hk⟩:=hk
 refine⟨N+M,fun n hn=>?_⟩
 show Go.AM.bO1 (A n) (k n)=some r
 rw[ha n (by omega)]
 exact hk n (by omega)
theorem Ev.bO2 {A:Nat→Option (α×β)}{a:α}{b:β}{k:Nat→α→β→Option γ}{r:γ}(ha:Ev A (a,b)) (hk:Ev (fun n=>k n a b) r):Ev (fun n=>bO2 (A n) (k n)) r:=by
 obtain⟨N,ha⟩:=ha
 obtain⟨M,hk⟩:=hk
 refine⟨N+M,fun n hn=>?_⟩
 show Go.AM.bO2 (A n) (k n)=some r
 rw[ha n (by omega)]
 exact hk n (by omega)
theorem Ev.run {A:Nat→Option α}{r:α}(h:Ev A r):∃n,A n=some r:=let ⟨N,h⟩:=h;⟨N,h N (Nat.le_refl _)⟩
theorem Ev.uniq {A:Nat→Option α}{r s:α}(h:Ev A r) (h':Ev A s):r=s:=by
 obtain⟨N,h⟩:=h
 obtain⟨M,h'⟩:=h'
 have a:=h (N+M) (by omega)
 rw[h' (N+M) (by omega)]at a
 exact (Option.some.inj a).symm
def Total (A:Nat→Option α):Prop:=∃r,Ev A r
theorem down {P:Nat→Prop}(N:Nat) (h0:P N) (h:∀i,i<N→P (i+1)→P i):∀i,i≤N→P i:=by
 intro i hi
 obtain⟨d,hd⟩:∃d,d=N - i:=⟨_,rfl⟩
 induction d generalizing i with
 | zero=>
      obtain rfl:i=N:=by omega
      exact h0
 | succ d ih=>exact h i (by omega) (ih (i+1) (by omega) (by omega))
end
section
variable {γ:Type}
theorem getF_nat {L:List D}{i:Nat}{x:D}{k:D→Option γ}(hx:L[i]?=some x):getF L (i:Int) k=k x:=getF_some (by omega) (by simpa using hx)
theorem wrap_i64' {x:Int}(h: -9223372036854775808≤x∧x≤9223372036854775807):IntKind.i64.wrap x=x:=IntWalk.i64_in x h
theorem wrap_succ {i N:Nat}(h:i<N) (hN:N≤maxLen):IntKind.i64.wrap ((i:Int)+1)=((i+1:Nat):Int):=by
 have:maxLen=9223372036854775807:=rfl
 rw[wrap_i64' (by omega)];omega
end
def RowS (ti:Types) (e:TypeId) (x:D):Prop:=Shape ti e x.cells∧∀y,ti e=some y→x.isAgg=rowD y.desc
def ListS (ti:Types) (e:TypeId) (L:List D):Prop:=L.length≤maxLen∧∀x∈L,RowS ti e x
theorem ListS.get {ti:Types}{e:TypeId}{L:List D}{i:Nat}(h:ListS ti e L) (hi:i<L.length):∃x,L[i]?=some x∧x∈L∧RowS ti e x:=
 ⟨L[i],List.getElem?_eq_getElem hi,List.getElem_mem hi,h.2 _ (List.getElem_mem hi)⟩
def flatFs (ti:Types) (rec:TypeId→Option (List TypeId)):Nat→List Field→Option (List TypeId)
 | _,[]=>some []
 | off,f::r=>match Nat.beq f.offset off with
  | false=>none
  | true=>match ti f.type with
   | none=>none
   | some y=>match rec f.type with
    | none=>none
    | some l=>match Nat.beq l.length y.size with
     | false=>none
     | true=>match flatFs ti rec (off+y.size) r with
      | none=>none
      | some l'=>some (l++l')
def flatT (ti:Types):Nat→TypeId→Option (List TypeId)
 | 0,_=>none
 | n+1,t=>match ti t with
  | none=>none
  | some x=>match x.desc with
   | .struct fs=>match flatFs ti (flatT ti n) 0 fs.toList with
    | none=>none
    | some l=>match Nat.beq l.length x.size with
     | true=>some l
     | false=>none
   | .array ..=>none
   | _=>some [t]
theorem Shape.one {ti:Types}{t:TypeId}{x:TI}{ds:List D}(h:Shape ti t ds) (hx:ti t=some x) (hd:∀fs,x.desc≠ .struct fs):∃c,ds=[c]:=by
 cases h with
 | struct ds h1 h2=>rw[hx]at h1;obtain rfl:=Option.some.inj h1;exact absurd h2 (hd _)
 | _=>exact⟨_,rfl⟩
theorem flatFs_ok {ti:Types}{rec:TypeId→Option (List TypeId)}{ds:List D}
  (hrec:∀t ls cs,rec t=some ls→Shape ti t cs→cs.length=ls.length∧∀(j:Nat) c tl,cs[j]?=some c→ls[j]?=some tl→Shape ti tl [c]):
  ∀(fs:List Field) (off:Nat) (ls:List TypeId),flatFs ti rec off fs=some ls→(∀f∈fs,∀y,ti f.type=some y→Shape ti f.type ((ds.drop f.offset).take y.size))→
   ∀(j:Nat) c tl,ds[off+j]?=some c→ls[j]?=some tl→Shape ti tl [c]
 | [],off,ls,h,_,j,c,tl,_,hl=>by
  cases h;simp at hl
 | f::fs,off,ls,h,hs,j,c,tl,hc,hl=>by
  unfold flatFs at h
  split at h
  ·cases h
  ·rename_i ho
   have ho:=Nat.eq_of_beq_eq_true ho
   split at h
   ·cases h
   ·rename_i y hy
    split at h
    ·cases h
    ·rename_i l hr
     split at h
     ·cases h
     ·rename_i hb
      have hb:=Nat.eq_of_beq_eq_true hb
      split at h
      ·cases h
      ·rename_i l' hl'
       cases h
       obtain⟨h1,h2⟩:=hrec _ _ _ hr (hs f (by simp) y hy)
       by_cases hj:j<l.length
       ·rw[List.getElem?_append_left hj]at hl
        refine h2 j c tl ?_ hl
        rw[List.getElem?_take,if_pos (by omega),List.getElem?_drop,ho]
        exact hc
       ·rw[List.getElem?_append_right (by omega)]at hl
        refine flatFs_ok hrec fs _ l' hl' (fun f' hf'=>hs f' (List.mem_cons_of_mem _ hf')) (j - l.length) c tl ?_ hl
        rw[←hc];congr 1;omega
theorem Shape.flat {ti:Types}:
  ∀(n:Nat) (t:TypeId) (ls:List TypeId) (ds:List D),flatT ti n t=some ls→Shape ti t ds→ds.length=ls.length∧∀(j:Nat) c tl,ds[j]?=some c→ls[j]?=some tl→Shape ti tl [c]
 | 0,t,ls,ds,h,_=>by cases h
 | n+1,t,ls,ds,h,hs=>by
  unfold flatT at h
  split at h
  ·cases h
  ·rename_i x hx
   have single:(∀fs,x.desc≠ .struct fs)→ls=[t]→ds.length=ls.length∧∀(j:Nat) c tl,ds[j]?=some c→ls[j]?=some tl→Shape ti tl [c]:=by
    rintro hd rfl
    obtain⟨c,rfl⟩:=hs.one hx hd
    refine⟨rfl,fun j c' tl h1 h2=>?_⟩
    match j with
    | 0=>simp at h1 h2;subst h1;subst h2;exact hs
    | j+1=>simp at h1
   split at h
   ·rename_i fs hd
    obtain⟨h1,_,h3⟩:=hs.struct_inv hx hd
    split at h
    ·cases h
    ·rename_i l hl
     split at h
     ·rename_i hb
      cases h
      refine⟨h1.trans (Nat.eq_of_beq_eq_true hb).symm,fun j c tl h4 h5=>?_⟩
      exact flatFs_ok (fun t ls cs h6 h7=>Shape.flat n t ls cs h6 h7) fs.toList 0 ls hl h3 j c tl (by simpa using h4) h5
     ·cases h
   ·cases h
   ·rename_i h1 h2
    cases h
    exact single h1 rfl
theorem RowS.agg {ti:Types}{e:TypeId}{x:D}{y:TI}(h:RowS ti e x) (hy:ti e=some y) (hr:rowD y.desc=true):∃cs,x= .agg cs∧Shape ti e cs:=by
 have h1:=(h.2 y hy).trans hr
 cases x<;>simp[D.isAgg]at h1
 exact⟨_,rfl,h.1⟩
theorem RowS.flat1 {ti:Types}{e:TypeId}{x:D}{y:TI}(h:RowS ti e x) (hy:ti e=some y) (hr:rowD y.desc=false):Shape ti e [x]:=by
 have h1:=(h.2 y hy).trans hr
 have h0:=h.1
 cases x<;>simp_all [D.isAgg,D.cells]
theorem Shape.listS {ti:Types}{t e:TypeId}{x y:TI}{c:D}(h:Shape ti t [c]) (hx:ti t=some x) (hd:x.desc= .slice e) (hy:ti e=some y):
  ∃L,c= .list (rowD y.desc) y.size L∧ListS ti e L:=by
 obtain⟨L,e1,h1,h2,h3⟩:=h.slice_inv hx hd hy
 refine⟨L,(List.cons.inj e1).1,h1,fun r hr=>⟨h3 r hr,fun y' hy'=>?_⟩⟩
 rw[hy]at hy'
 obtain rfl:=Option.some.inj hy'
 exact (h2 r hr).1
theorem Shape.intS {ti:Types}{t:TypeId}{x:TI}{k:IntKind}{c:D}(h:Shape ti t [c]) (hx:ti t=some x) (hd:x.desc= .int k):∃n,c= .int k n∧(Lit.int k n).wf=true:=by
 obtain⟨n,e,hw⟩:=h.int_inv hx hd
 exact⟨n,(List.cons.inj e).1,hw⟩
theorem Shape.strS {ti:Types}{t:TypeId}{x:TI}{c:D}(h:Shape ti t [c]) (hx:ti t=some x) (hd:x.desc= .string):∃s,c= .str s∧s.size≤maxLen:=by
 obtain⟨n,e,hw⟩:=h.str_inv hx hd
 exact⟨n,(List.cons.inj e).1,hw⟩
theorem size_row {ag:Bool}{sz:Nat}{L M:List D}{cs:List D}(h:D.agg cs∈L) (h2:D.list ag sz M∈cs):SizeOf.sizeOf M<SizeOf.sizeOf L:=by
 have h1:=List.sizeOf_lt_of_mem h
 have h3:=List.sizeOf_lt_of_mem h2
 simp at h1 h3
 omega
theorem list_ind {P:List D→Prop}(H:∀L,(∀M,SizeOf.sizeOf M<SizeOf.sizeOf L→P M)→P L) (L:List D):P L:=by
 obtain⟨m,hm⟩:∃m,SizeOf.sizeOf L<m:=⟨_,Nat.lt_succ_self _⟩
 induction m generalizing L with
 | zero=>omega
 | succ m ih=>exact H L (fun M hM=>ih M (by omega))
end Go.AM
set_option linter.unusedVariables false
noncomputable section
namespace Go.Proofs.YtjmofeakajdbiaaGreatDoor
open Go Go.AM
mutual
def L146_1:Nat->BA->Int->Option (Bool)
 | 0,_,_=>none
 | n+1,s1,z2=>
  (if z2<(47:Int)then L146_2 n s1 z2 true else L146_2 n s1 z2 false)
def L146_2:Nat->BA->Int->Bool->Option (Bool)
 | 0,_,_,_=>none
 | n+1,s1,z2,b3=>
  (if b3=true then getF ([.str k_let,.str k_if,.str k_else,.str k_while,.str k_match,.str k_scope,.str k_spawn,.str k_lock,.str k_as,.str k_chan,.str k_drop,.str k_fn,.str k_struct,.str k_enum,.str k_true,.str k_false,.str k_and,.str k_or,.str k_not,.str k_int,.str k_bool,.str k_unit,.str k_mut,.str k_box,.str k_unbox,.str k_cell,.str k_get,.str k_set,.str k_rc,.str k_arc,.str k_clone,.str k_mutex,.str k_open,.str k_atomic,.str k_load,.str k_store,.str k_fetch,.str k_send,.str k_recv,.str k_Box,.str k_Cell,.str k_Rc,.str k_Arc,.str k_Mutex,.str k_Atomic,.str k_Sender,.str k_Receiver]) z2 fun x4=>ds_str x4 fun s5=>(if s5=s1 then L146_3 n s1 z2 true else L146_3 n s1 z2 false)else some false)
def L146_3:Nat->BA->Int->Bool->Option (Bool)
 | 0,_,_,_=>none
 | n+1,s1,z2,b6=>
  (if b6=true then some true else letF (IntKind.wrap .i64 (z2+1)) fun z7=>L146_1 n s1 z7)
end
def F146 (n:Nat) (s1:BA):Option (Bool):=
 L146_1 n s1 (0:Int)
end Go.Proofs.YtjmofeakajdbiaaGreatDoor
end
set_option linter.unusedVariables false
noncomputable section
namespace Go.Proofs.YtjmofeakajdbiaaGreatDoor
open Go Go.AM
def bl (s:ByteArray):List UInt8:=s.data.toList
theorem bl_len (s:ByteArray):s.size=(bl s).length:=(Array.length_toList (xs:=s.data)).symm
theorem bl_inj {s t:ByteArray}(h:bl s=bl t):s=t:=by
 cases s;cases t
 simp only[bl]at h
 rw[Array.toList_inj.1 h]
theorem atF_get {γ:Type}{s:ByteArray}{i:Nat}{b:UInt8}{k:Int→Option γ}(h:(bl s)[i]?=some b):atF s (i:Int) k=k (b.toNat:Int):=by
 have hlt:i<s.size:=by rw[bl_len];exact (List.getElem?_eq_some_iff.1 h).1
 have hb:s[i]=b:=by
  have:=(List.getElem?_eq_some_iff.1 h).2
  rw[←this]
  simp[bl]
  rfl
 have h1:s[(i:Int).toNat]?=some b:=by
  rw[Int.toNat_natCast,getElem?_pos s i hlt,hb]
 unfold atF
 rw[if_pos (Int.natCast_nonneg i),h1]
 rfl
theorem szF_eq {γ:Type}{s:ByteArray}{k:Int→Option γ}:szF s k=k ((bl s).length:Int):=by
 unfold szF
 rw[bl_len]
def wordsL:List ByteArray:=[k_let,k_if,k_else,k_while,k_match,k_scope,k_spawn,k_lock,k_as,k_chan,k_drop,k_fn,k_struct,k_enum,k_true,k_false,k_and,k_or,k_not,k_int,k_bool,k_unit,k_mut,k_box,k_unbox,k_cell,k_get,k_set,k_rc,k_arc,k_clone,k_mutex,k_open,k_atomic,k_load,k_store,k_fetch,k_send,k_recv,k_Box,k_Cell,k_Rc,k_Arc,k_Mutex,k_Atomic,k_Sender,k_Receiver]
def word (s:ByteArray):Bool:=wordsL.any fun w=>decide (bl w=bl s)
theorem word_iff {s:ByteArray}:word s=true↔s∈wordsL:=by
 unfold word
 rw[List.any_eq_true]
 constructor
 ·rintro⟨w,hw,h⟩
  rw[←bl_inj (of_decide_eq_true h)];exact hw
 ·intro h
  exact⟨s,h,decide_eq_true rfl⟩
theorem word_no {s:ByteArray}(h:s∉wordsL):word s=false:=by
 cases hw:word s
 ·rfl
 ·exact absurd (word_iff.1 hw) h
theorem beq_bytes {a b:ByteArray}:(a==b)=true↔a=b:=by
 rw[beq_toListBytes]
 constructor
 ·intro h
  have h:=eq_of_beq h
  rw[ByteArray.toList_eq,ByteArray.toList_eq]at h
  exact bl_inj h
 ·rintro rfl
  exact beq_self_eq_true _
inductive WRows:List ByteArray→List D→Prop where
 | nil:WRows [] []
 | cons {w:ByteArray} {z:Int} {ws:List ByteArray} {rows:List D} (hz:0<z) (h:WRows ws rows):WRows (w::ws) (.agg [.str w,.int .i64 z]::rows)
theorem WRows.find {s:ByteArray}:∀{ws:List ByteArray}{rows:List D},WRows ws rows→(s∉ws∧findR false (.str s) rows=some none)∨∃z,s∈ws∧0<z∧findR false (.str s) rows=some (some (.int .i64 z))
 | _,_,.nil=>.inl ⟨by simp,rfl⟩
 | _,_,.cons (w:=w) (z:=z) (ws:=ws) (rows:=rows) hz h=>by
  cases hb:(s==w)with
  | true=>
   have:=beq_bytes.1 hb
   subst this
   exact .inr ⟨z,by simp,hz,by simp[findR,eqK,hb,rowOf]⟩
  | false=>
   have hne:s≠w:=fun e=>by rw[beq_bytes.2 e]at hb;cases hb
   rcases h.find (s:=s)with⟨h1,h2⟩ | ⟨z',h1,h2,h3⟩
   ·exact .inl ⟨by simp[hne,h1],by simp[findR,eqK,hb,h2]⟩
   ·exact .inr ⟨z',by simp[h1],h2,by simp[findR,eqK,hb,h3]⟩
theorem WRows.put {s:ByteArray}{z:Int}(hz:0<z):∀{ws:List ByteArray}{rows:List D},WRows ws rows→∃ws' rows',putR (.str s) [.int .i64 z] rows=some rows'∧WRows ws' rows'∧∀t,t∈ws'↔t=s∨t∈ws
 | _,_,.nil=>⟨[s],_,rfl,.cons hz .nil,by simp⟩
 | _,_,.cons (w:=w) (z:=z') (ws:=ws) (rows:=rows) hz' h=>by
  cases hb:(s==w)with
  | true=>
   have:=beq_bytes.1 hb
   subst this
   exact⟨s::ws,.agg [.str s,.int .i64 z]::rows,by simp[putR,eqK,hb],.cons hz h,by intro t;simp⟩
  | false=>
   obtain⟨ws',rows',h1,h2,h3⟩:=h.put (s:=s) hz
   refine⟨w::ws',.agg [.str w,.int .i64 z']::rows',by simp[putR,eqK,hb,h1],.cons hz' h2,fun t=>?_⟩
   simp only[List.mem_cons,h3]
   constructor
   ·rintro (h | h | h)<;>simp[h]
   ·rintro (h | h | h)<;>simp[h]
theorem fields_words:fieldsD k_let_if_else_while_match_=wordsL.map D.str:=by kernel_rfl
theorem ev50:Ev (fun n=>F152 n k_let_if_else_while_match_) (wordsL.map D.str):=Ev.of fun n=>by
 rw[←fields_words]
 unfold F152
 have h1:Nat.ble (k_let_if_else_while_match_).size 1000=true:=by kernel_rfl
 have h1:=Nat.le_of_ble_eq_true h1
 have h2:(Lib.fields (k_let_if_else_while_match_).data.toList).length=47:=by kernel_rfl
 rw[if_pos (by rw[h2];exact⟨by omega,by kernel_rfl,by decide⟩)]
theorem wordsL_len:wordsL.length=47:=rfl
theorem ev30:∃ws rows,Ev (fun n=>F151 n) rows∧WRows ws rows∧∀t,t∈ws↔t∈wordsL:=by
 have main:∀i:Nat,i≤47→∀ws rows,WRows ws rows→∃ws' rows',Ev (fun n=>L151_1 n (wordsL.map D.str) 47 (i:Int) rows) rows'∧WRows ws' rows'∧∀t,t∈ws'↔t∈wordsL.drop i∨t∈ws:=by
  refine down 47 ?_ ?_
  ·intro ws rows h
   refine⟨ws,rows,.succ (.succ (.of fun n=>?_)),h,fun t=>?_⟩
   ·rw[L151_1,if_neg (by omega),L151_2,if_neg Bool.false_ne_true]
   ·rw[List.drop_eq_nil_of_le (by rw[wordsL_len];omega)]
    simp
  ·intro i hi ih ws rows h
   have hlt:i<wordsL.length:=by rw[wordsL_len];exact hi
   obtain⟨ws1,rows1,h1,h2,h3⟩:=h.put (s:=wordsL[i]) (z:=((i+1:Nat):Int)) (by omega)
   obtain⟨ws2,rows2,h4,h5,h6⟩:=ih ws1 rows1 h2
   refine⟨ws2,rows2,.succ (.succ (h4.congr fun n=>?_)),h5,fun t=>?_⟩
   ·have hw:(wordsL.map D.str)[i]?=some (.str wordsL[i]):=by simp[hlt]
    rw[L151_1,if_pos (by omega),L151_2,if_pos rfl,getF_nat hw]
    simp only[ds_str,letF,wrap_succ (N:=47) hi (by decide)]
    unfold putF
    rw[h1]
   ·rw[h6,h3,List.drop_eq_getElem_cons hlt]
    simp only[List.mem_cons]
    constructor
    ·rintro (h | h | h)<;>simp[h]
    ·rintro ((h | h) | h)<;>simp[h]
 obtain⟨ws,rows,h1,h2,h3⟩:=main 0 (by omega) [] [] .nil
 refine⟨ws,rows,?_,h2,by simpa using h3⟩
 unfold F151
 refine Ev.bO1 ev50 (h1.congr fun n=>?_)
 unfold lenF
 rfl
theorem ev11 (s:ByteArray):Ev (fun n=>F144 n s) (word s):=by
 obtain⟨ws,rows,h1,h2,h3⟩:=ev30
 unfold F144
 refine Ev.bO1 h1 (Ev.of fun n=>?_)
 unfold findF
 rcases h2.find (s:=s)with⟨h4,h5⟩ | ⟨z,h4,h5,h6⟩
 ·rw[h5]
  have:s∉wordsL:=fun h=>h4 ((h3 s).2 h)
  rw[word_no this]
 ·rw[h6]
  have:s∈wordsL:=(h3 s).1 h4
  rw[word_iff.2 this]
  simp[ds_i64,h5]
theorem ev12 (s:ByteArray):Ev (fun n=>F146 n s) (word s):=by
 have main:∀i:Nat,i≤47→Ev (fun n=>L146_1 n s (i:Int)) ((wordsL.drop i).any fun w=>decide (bl w=bl s)):=by
  refine down 47 ?_ ?_
  ·refine .succ (.succ (.of fun n=>?_))
   rw[L146_1,if_neg (by omega),L146_2,if_neg Bool.false_ne_true,List.drop_eq_nil_of_le (by rw[wordsL_len];omega)]
   rfl
  ·intro i hi ih
   have hlt:i<wordsL.length:=by rw[wordsL_len];exact hi
   have hw:(wordsL.map D.str)[i]?=some (.str wordsL[i]):=by simp[hlt]
   have hw:([.str k_let,.str k_if,.str k_else,.str k_while,.str k_match,.str k_scope,.str k_spawn,.str k_lock,.str k_as,.str k_chan,.str k_drop,.str k_fn,.str k_struct,.str k_enum,.str k_true,.str k_false,.str k_and,.str k_or,.str k_not,.str k_int,.str k_bool,.str k_unit,.str k_mut,.str k_box,.str k_unbox,.str k_cell,.str k_get,.str k_set,.str k_rc,.str k_arc,.str k_clone,.str k_mutex,.str k_open,.str k_atomic,.str k_load,.str k_store,.str k_fetch,.str k_send,.str k_recv,.str k_Box,.str k_Cell,.str k_Rc,.str k_Arc,.str k_Mutex,.str k_Atomic,.str k_Sender,.str k_Receiver]:List D)[i]?=some (.str wordsL[i]):=hw
   rw[List.drop_eq_getElem_cons hlt,List.any_cons]
   by_cases he:wordsL[i]=s
   ·refine .succ (.succ (.succ (.of fun n=>?_)))
    rw[L146_1,if_pos (by omega),L146_2,if_pos rfl,getF_nat hw]
    simp only[ds_str]
    rw[if_pos he,L146_3,if_pos rfl,decide_eq_true (congrArg bl he)]
    rfl
   ·rw[decide_eq_false (fun e=>he (bl_inj e)),Bool.false_or]
    refine .succ (.succ (.succ (ih.congr fun n=>?_)))
    rw[L146_1,if_pos (by omega),L146_2,if_pos rfl,getF_nat hw]
    simp only[ds_str]
    rw[if_neg he,L146_3,if_neg Bool.false_ne_true]
    simp only[letF,wrap_succ (N:=47) hi (by decide)]
 have:=main 0 (by omega)
 unfold F146 word
 exact this
end Go.Proofs.YtjmofeakajdbiaaGreatDoor
set_option linter.unusedVariables false
noncomputable section
namespace Go.Proofs.YtjmofeakajdbiaaGreatDoor
open Go Go.AM
def F147 (n:Nat) (z1:Int):Option (Bool):=
 (if (97:Int)<=z1 then (if z1<=(122:Int)then some true else (if (65:Int)<=z1 then (if z1<=(90:Int)then some true else (if (48:Int)<=z1 then (if z1<=(57:Int)then some true else (if z1=(95:Int)then some true else some false))else (if z1=(95:Int)then some true else some false)))else (if (48:Int)<=z1 then (if z1<=(57:Int)then some true else (if z1=(95:Int)then some true else some false))else (if z1=(95:Int)then some true else some false))))else (if (65:Int)<=z1 then (if z1<=(90:Int)then some true else (if (48:Int)<=z1 then (if z1<=(57:Int)then some true else (if z1=(95:Int)then some true else some false))else (if z1=(95:Int)then some true else some false)))else (if (48:Int)<=z1 then (if z1<=(57:Int)then some true else (if z1=(95:Int)then some true else some false))else (if z1=(95:Int)then some true else some false))))
mutual
def L131_2:Nat->BA->Int->Option (Bool)
 | 0,_,_=>none
 | n+1,s1,z9=>
  szF s1 fun z10=>(if z9<z10 then L131_3 n s1 z9 true else L131_3 n s1 z9 false)
def L131_3:Nat->BA->Int->Bool->Option (Bool)
 | 0,_,_,_=>none
 | n+1,s1,z9,b11=>
  (if b11=true then atF s1 z9 fun z12=>bO1 (F147 n z12) fun b13=>letB (!b13) fun b14=>(if b14=true then some false else letF (IntKind.wrap .i64 (z9+1)) fun z15=>L131_2 n s1 z15)else some true)
end
def L131_1:Nat->BA->Bool->Option (Bool)
 | 0,_,_=>none
 | n+1,s1,b8=>
  (if b8=true then some false else L131_2 n s1 (0:Int))
def F131 (n:Nat) (s1:BA) (z2:Int) (z3:Int):Option (Bool):=
 (if s1=ByteArray.empty then L131_1 n s1 true else szF s1 fun z4=>(if (16:Int)<z4 then L131_1 n s1 true else atF s1 (0:Int) fun z5=>(if z5<z2 then L131_1 n s1 true else atF s1 (0:Int) fun z6=>(if z3<z6 then L131_1 n s1 true else bO1 (F146 n s1) fun b7=>L131_1 n s1 b7))))
def F81 (n:Nat) (s1:BA):Option (Bool):=
 bO1 (F131 n s1 (97:Int) (122:Int)) fun b2=>some b2
def F78 (n:Nat) (s1:BA):Option (Bool):=
 bO1 (F131 n s1 (65:Int) (90:Int)) fun b2=>some b2
end Go.Proofs.YtjmofeakajdbiaaGreatDoor
end
set_option linter.unusedVariables false
noncomputable section
namespace Go.Proofs.YtjmofeakajdbiaaGreatDoor
open Go Go.AM
def inZ (lo hi z:Int):Bool:=decide (lo≤z∧z≤hi)
def partZ (z:Int):Bool:=inZ 97 122 z || inZ 65 90 z || inZ 48 57 z || decide (z=95)
def pB (b:UInt8):Bool:=partZ (b.toNat:Int)
theorem f32 (n:Nat) (z:Int):F123 n z=some (inZ 97 122 z):=by
 unfold F123 inZ
 grind
theorem f34 (n:Nat) (z:Int):F122 n z=some (inZ 65 90 z):=by
 unfold F122 inZ
 grind
theorem f67 (n:Nat) (z:Int):F150 n z=some (inZ 48 57 z):=by
 unfold F150 inZ
 grind
theorem f52 (n:Nat) (z:Int):F143 n z=some (partZ z):=by
 unfold F143 partZ
 rw[f32,f34,f67]
 simp only[bO1]
 cases inZ 97 122 z<;>cases inZ 65 90 z<;>cases inZ 48 57 z<;>grind
theorem f53 (n:Nat) (z:Int):F147 n z=some (partZ z):=by
 unfold F147 partZ inZ
 grind
theorem pre_get {α:Type}{l pre rest:List α}{b:α}(h:pre++b::rest=l):l[pre.length]?=some b:=by
 rw[←h,List.getElem?_append_right (Nat.le_refl _)]
 simp
theorem evL51 {s:ByteArray}(hs:s.size≤maxLen):∀(rest pre:List UInt8),pre++rest=bl s→Ev (fun n=>L142_1 n s (pre.length:Int)) (((pre.length+(rest.takeWhile pB).length:Nat):Int))
 | [],pre,h=>by
  refine .succ (.succ (.of fun n=>?_))
  rw[L142_1,szF_eq,←h,if_neg (by simp),L142_2,if_neg Bool.false_ne_true]
  simp
 | b::rest,pre,h=>by
  have hlt:pre.length<(bl s).length:=by rw[←h];simp
  have hb:=pre_get h
  cases hp:pB b with
  | false=>
   refine .succ (.succ (.of fun n=>?_))
   rw[L142_1,szF_eq,if_pos (by omega),atF_get hb,f52]
   simp only[bO1]
   rw[show partZ (b.toNat:Int)=false from hp,L142_2,if_neg Bool.false_ne_true]
   simp[hp]
  | true=>
   have ih:=evL51 hs rest (pre++[b]) (by simpa using h)
   have e:(pre++[b]).length+(rest.takeWhile pB).length=pre.length+((b::rest).takeWhile pB).length:=by
    simp[hp];omega
   rw[e]at ih
   refine .succ (.succ (ih.congr fun n=>?_))
   rw[L142_1,szF_eq,if_pos (by omega),atF_get hb,f52]
   simp only[bO1]
   rw[show partZ (b.toNat:Int)=true from hp,L142_2,if_pos rfl]
   simp only[letF]
   rw[wrap_succ (N:=(bl s).length) hlt (by rw[←bl_len];exact hs)]
   simp
theorem ev51 {s:ByteArray}(hs:s.size≤maxLen):Ev (fun n=>F142 n s) (((bl s).takeWhile pB).length:Int):=by
 have:=evL51 hs (bl s) [] rfl
 unfold F142
 simpa using this
def nm (lo hi:Int) (s:ByteArray):Bool:=
 match bl s with
 | []=>false
 | b::r=>decide ((b::r).length≤16)&&inZ lo hi (b.toNat:Int)&&(b::r).all pB&&!word s
theorem takeWhile_all {α:Type}{p:α→Bool}:∀{l:List α},((l.takeWhile p).length=l.length)↔l.all p=true
 | []=>by simp
 | x::l=>by
  cases h:p x
  ·simp[h]
  ·simp[h,takeWhile_all (l:=l)]
theorem empty_iff {s:ByteArray}:s=ByteArray.empty↔bl s=[]:=by
 constructor
 ·rintro rfl;rfl
 ·intro h;exact bl_inj h
theorem ev_nm {G:Nat→Int→Option Bool}{lo hi:Int}(hG:∀n z,G n z=some (inZ lo hi z)) {s:ByteArray}(hs:s.size≤maxLen):
  Ev (fun n=>(if s=ByteArray.empty then some false else szF s fun z2=>(if z2≤(16:Int)then atF s (0:Int) fun z3=>bO1 (G n z3) fun b4=>(if b4=true then bO1 (F142 n s) fun z5=>szF s fun z6=>(if z5=z6 then bO1 (F144 n s) fun b7=>letB (!b7) fun b8=>some b8 else some false)else some false)else some false))) (nm lo hi s):=by
 cases h:bl s with
 | nil=>
  have hr:nm lo hi s=false:=by unfold nm;rw[h]
  rw[hr]
  exact .of fun n=>by rw[if_pos (empty_iff.2 h)]
 | cons b r=>
  have hr:nm lo hi s=(decide ((b::r).length≤16)&&inZ lo hi (b.toNat:Int)&&(b::r).all pB&&!word s):=by unfold nm;rw[h]
  rw[hr]
  clear hr
  have hne:s≠ByteArray.empty:=fun e=>by rw[empty_iff.1 e]at h;cases h
  have hb:(bl s)[0]?=some b:=by rw[h];rfl
  by_cases hl:(b::r).length≤16
  ·cases hz:inZ lo hi (b.toNat:Int)with
   | false=>
    refine .of fun n=>?_
    rw[if_neg hne,szF_eq,h,if_pos (by omega),show (0:Int)=((0:Nat):Int)from rfl,atF_get hb,hG,hz]
    simp[bO1]
   | true=>
    have step:∀r',Ev (fun n=>bO1 (F142 n s) fun z5=>szF s fun z6=>(if z5=z6 then bO1 (F144 n s) fun b7=>letB (!b7) fun b8=>some b8 else some false)) r'→
      Ev (fun n=>(if s=ByteArray.empty then some false else szF s fun z2=>(if z2≤(16:Int)then atF s (0:Int) fun z3=>bO1 (G n z3) fun b4=>(if b4=true then bO1 (F142 n s) fun z5=>szF s fun z6=>(if z5=z6 then bO1 (F144 n s) fun b7=>letB (!b7) fun b8=>some b8 else some false)else some false)else some false))) r':=fun r' hr=>hr.congr fun n=>by
     rw[if_neg hne,szF_eq (s:=s) (k:=fun z2=>if z2≤(16:Int)then _ else _),h,if_pos (by omega),show (0:Int)=((0:Nat):Int)from rfl,atF_get hb,hG,hz]
     simp[bO1]
    refine step _ (Ev.bO1 (ev51 hs) ?_)
    cases ha:(b::r).all pB with
    | false=>
     refine .of fun n=>?_
     rw[szF_eq,if_neg]
     ·simp
     ·intro e
      have:((bl s).takeWhile pB).length=(bl s).length:=by omega
      rw[takeWhile_all,h,ha]at this
      cases this
    | true=>
     refine Ev.congr (A:=fun n=>bO1 (F144 n s) fun b7=>letB (!b7) fun b8=>some b8) ?_ fun n=>?_
     ·refine Ev.bO1 (ev11 s) (.of fun n=>?_)
      simp only[letB,decide_eq_true hl,Bool.true_and]
     ·rw[szF_eq,if_pos]
      have:=takeWhile_all.2 (h▸ha:(bl s).all pB=true)
      omega
  ·refine .of fun n=>?_
   rw[if_neg hne,szF_eq,h,if_neg (by omega),decide_eq_false hl]
   rfl
theorem ev31 {s:ByteArray}(hs:s.size≤maxLen):Ev (fun n=>F121x1 n s) (nm 97 122 s):=ev_nm f32 hs
theorem ev31x1 {s:ByteArray}(hs:s.size≤maxLen):Ev (fun n=>F121 n s) (nm 65 90 s):=ev_nm f34 hs
theorem ev13 {s:ByteArray}(hs:s.size≤maxLen):Ev (fun n=>F74 n s) (nm 97 122 s):=Ev.bO1 (ev31 hs) .ret
theorem ev15 {s:ByteArray}(hs:s.size≤maxLen):Ev (fun n=>F73 n s) (nm 65 90 s):=Ev.bO1 (ev31x1 hs) .ret
theorem evL33 {s:ByteArray}(hs:s.size≤maxLen):∀(rest pre:List UInt8),pre++rest=bl s→Ev (fun n=>L131_2 n s (pre.length:Int)) (rest.all pB)
 | [],pre,h=>by
  refine .succ (.succ (.of fun n=>?_))
  rw[L131_2,szF_eq,←h,if_neg (by simp),L131_3,if_neg Bool.false_ne_true]
  simp
 | b::rest,pre,h=>by
  have hlt:pre.length<(bl s).length:=by rw[←h];simp
  have hb:=pre_get h
  cases hp:pB b with
  | false=>
   refine .succ (.succ (.of fun n=>?_))
   rw[L131_2,szF_eq,if_pos (by omega),L131_3,if_pos rfl,atF_get hb,f53]
   simp only[bO1,letB]
   rw[show partZ (b.toNat:Int)=false from hp]
   simp[hp]
  | true=>
   have ih:=evL33 hs rest (pre++[b]) (by simpa using h)
   refine .succ (.succ (Ev.congr (r:=(b::rest).all pB) (by simpa [hp] using ih) fun n=>?_))
   rw[L131_2,szF_eq,if_pos (by omega),L131_3,if_pos rfl,atF_get hb,f53]
   simp only[bO1,letB]
   rw[show partZ (b.toNat:Int)=true from hp]
   simp only[letF,Bool.not_true,Bool.false_eq_true,if_false]
   rw[wrap_succ (N:=(bl s).length) hlt (by rw[←bl_len];exact hs)]
   simp
theorem ev33 {s:ByteArray}(hs:s.size≤maxLen) (lo hi:Int):Ev (fun n=>F131 n s lo hi) (nm lo hi s):=by
 have t:∀n,L131_1 (n+1) s true=some false:=fun n=>by rw[L131_1,if_pos rfl]
 cases h:bl s with
 | nil=>
  have hr:nm lo hi s=false:=by unfold nm;rw[h]
  rw[hr]
  exact .succ (.of fun n=>by unfold F131;rw[if_pos (empty_iff.2 h),t])
 | cons b r=>
  have hr:nm lo hi s=(decide ((b::r).length≤16)&&inZ lo hi (b.toNat:Int)&&(b::r).all pB&&!word s):=by unfold nm;rw[h]
  rw[hr]
  clear hr
  have hne:s≠ByteArray.empty:=fun e=>by rw[empty_iff.1 e]at h;cases h
  have hb:(bl s)[0]?=some b:=by rw[h];rfl
  have z0:(0:Int)=((0:Nat):Int):=rfl
  by_cases hl:(b::r).length≤16
  ·by_cases h1:(b.toNat:Int)<lo
   ·refine .succ (.of fun n=>?_)
    unfold F131
    rw[if_neg hne,szF_eq,h,if_neg (by omega),z0,atF_get hb,if_pos h1,t]
    simp[inZ,show ¬lo≤(b.toNat:Int)by omega]
   ·by_cases h2:hi<(b.toNat:Int)
    ·refine .succ (.of fun n=>?_)
     unfold F131
     rw[if_neg hne,szF_eq,h,if_neg (by omega),z0,atF_get hb,if_neg h1,atF_get hb,if_pos h2,t]
     simp[inZ,show ¬(b.toNat:Int)≤hi by omega]
    ·have hin:inZ lo hi (b.toNat:Int)=true:=by simp[inZ];omega
     refine Ev.congr (A:=fun n=>bO1 (F146 n s) fun b7=>L131_1 n s b7) (Ev.bO1 (ev12 s) ?_) fun n=>?_
     ·cases hw:word s with
      | true=>exact .succ (.of fun n=>by rw[t];simp)
      | false=>
       refine .succ ?_
       have h9:Ev (fun n=>L131_2 n s ((0:Nat):Int)) ((bl s).all pB):=evL33 hs (bl s) [] rfl
       have h8:Ev (fun n=>L131_1 (n+1) s false) ((bl s).all pB):=h9.congr fun n=>by rw[L131_1,if_neg Bool.false_ne_true];rfl
       rw[h]at h8
       rw[decide_eq_true hl,hin,Bool.true_and,Bool.true_and,Bool.not_false,Bool.and_true]
       exact h8
     ·unfold F131
      rw[if_neg hne,szF_eq,h,if_neg (by omega),z0,atF_get hb,if_neg h1,atF_get hb,if_neg h2]
  ·refine .succ (.of fun n=>?_)
   unfold F131
   rw[if_neg hne,szF_eq,h,if_pos (by omega),t,decide_eq_false hl]
   rfl
theorem ev14 {s:ByteArray}(hs:s.size≤maxLen):Ev (fun n=>F81 n s) (nm 97 122 s):=Ev.bO1 (ev33 hs 97 122) .ret
theorem ev16 {s:ByteArray}(hs:s.size≤maxLen):Ev (fun n=>F78 n s) (nm 65 90 s):=Ev.bO1 (ev33 hs 65 90) .ret
end Go.Proofs.YtjmofeakajdbiaaGreatDoor
set_option linter.unusedVariables false
noncomputable section
namespace Go.Proofs.YtjmofeakajdbiaaGreatDoor
open Go Go.AM
def L26_1:Nat->BA->Int->Bool->Option (Int)
 | 0,_,_,_=>none
 | n+1,s1,z2,b5=>
  (if b5=true then some (-1:Int)else letF (IntKind.wrap .i64 (z2 - 5)) fun z6=>szF s1 fun z7=>letF (IntKind.wrap .i64 (z6 - z7)) fun z8=>some z8)
def F26 (n:Nat) (s1:BA) (z2:Int):Option (Int):=
 (if z2<(5:Int)then L26_1 n s1 z2 true else szF s1 fun z3=>letF (IntKind.wrap .i64 (z2 - 5)) fun z4=>(if z4<z3 then L26_1 n s1 z2 true else L26_1 n s1 z2 false))
theorem T26 (n:Nat):∀⦃s1 z2 r1⦄,F26 n s1 z2=some r1->
    Trip Tryz.prog inv 26 [.c (.ptr (.ext 0) 0),.d (.str s1)] [.cells [.d (.int .i64 z2)]] (.t []) [.cells [.d (.int .i64 r1)]] []:=by
 intro s1 z2 r1 h
 unfold F26 at h
 refine Trip.of tab_ok tab_one fol Tryz.func26 rfl (by kernel_rfl) rfl rfl rfl (fun M hM hI=>?_)
 try cbv
 refine seq_go ?_
 try cbv
 refine seq_joinB 18 [0,1,18] [.ext 0] 480 (fun m b=>m<=n/\L26_1 m s1 z2 b=some r1) ?_ ?_
 ·try cbv
  refine splitL (fun e=>?_) (fun e=>?_)
  ·replace h:=ite_t e h
   clear e
   try cbv
   exact join_next (n,true) [0,1,18] [.ext 0] 480 ⟨by omega,h⟩ (by cbv)
  replace h:=ite_f (Int.not_lt.2 e) h
  clear e
  try cbv
  replace h:=szF_inv M h
  obtain⟨z3,hz,h⟩:=h
  refine⟨z3,hz,?_⟩
  clear hz
  try cbv
  replace h:=letF_inv h
  obtain⟨z4,hz,h⟩:=h
  refine⟨z4,hz,?_⟩
  clear hz
  try cbv
  refine splitL (fun e=>?_) (fun e=>?_)
  ·replace h:=ite_t e h
   clear e
   try cbv
   exact join_next (n,true) [0,1,18] [.ext 0] 480 ⟨by omega,h⟩ (by cbv)
  replace h:=ite_f (Int.not_lt.2 e) h
  clear e
  try cbv
  exact join_next (n,false) [0,1,18] [.ext 0] 480 ⟨by omega,h⟩ (by cbv)
 clear h
 rintro⟨m1,b5⟩ ⟨hm1,h⟩
 try cbv
 replace hm1:m1<=n:=hm1
 obtain _ | m1:=m1
 ·replace h:L26_1 0 s1 z2 b5=some r1:=h
  rw[L26_1]at h
  cases h
 replace h:L26_1 (m1+1) s1 z2 b5=some r1:=h
 rw[L26_1]at h
 try cbv
 cases b5
 rotate_left
 ·replace h:=itT h
  try cbv
  refine seq_go ?_
  try cbv
  obtain rfl:=Option.some.inj h
  refine fin_go ?_
  try cbv
  exact⟨[],rfl,rfl,⟨rfl,trivial⟩,trivial,trivial⟩
 replace h:=itF h
 try cbv
 replace h:=letF_inv h
 obtain⟨z6,hz,h⟩:=h
 refine⟨z6,hz,?_⟩
 clear hz
 try cbv
 replace h:=szF_inv M h
 obtain⟨z7,hz,h⟩:=h
 refine⟨z7,hz,?_⟩
 clear hz
 try cbv
 replace h:=letF_inv h
 obtain⟨z8,hz,h⟩:=h
 refine⟨z8,hz,?_⟩
 clear hz
 try cbv
 obtain rfl:=Option.some.inj h
 refine fin_go ?_
 try cbv
 exact⟨[],rfl,rfl,⟨rfl,trivial⟩,trivial,trivial⟩
mutual
def L28_1:Nat->LD->Int->Int->Option (Int)
 | 0,_,_,_=>none
 | n+1,l3,z6,z7=>
  lenF l3 fun z8=>(if z6<z8 then (if (0:Int)<=z7 then L28_2 n l3 z6 z7 true else L28_2 n l3 z6 z7 false)else L28_2 n l3 z6 z7 false)
def L28_2:Nat->LD->Int->Int->Bool->Option (Int)
 | 0,_,_,_,_=>none
 | n+1,l3,z6,z7,b9=>
  (if b9=true then getF l3 z6 fun x10=>ds_t33 x10 fun z11 s12 l13=>bO1 (F28 n z11 s12 l13 z7) fun z14=>letF (IntKind.wrap .i64 (z6+1)) fun z15=>L28_1 n l3 z15 z14 else some z7)
def F28:Nat->Int->BA->LD->Int->Option (Int)
 | 0,_,_,_,_=>none
 | n+1,z1,s2,l3,z4=>
  bO1 (F26 n s2 z4) fun z5=>L28_1 n l3 (0:Int) z5
end
theorem T28 (n:Nat):∀⦃z1 s2 l3 z4 r1⦄,F28 n z1 s2 l3 z4=some r1->
    Trip Tryz.prog inv 28 [.c (.ptr (.ext 0) 0),.d (.agg [.int .u8 z1,.str s2,.list true 3 l3])] [.cells [.d (.int .i64 z4)]] (.t []) [.cells [.d (.int .i64 r1)]] []:=by
 induction n using Nat.strongRecOn with | _ n ih=>
 obtain _ | n:=n
 ·intro z1 s2 l3 z4 r1 h
  cases (show (none:Option _)=some _ from h)
 intro z1 s2 l3 z4 r1 h
 rw[F28]at h
 refine Trip.of tab_ok tab_one fol Tryz.func28 rfl (by kernel_rfl) rfl rfl rfl (fun M hM hI=>?_)
 try cbv
 refine seq_go ?_
 try cbv
 refine seq_go ?_
 try cbv
 replace h:=bO1_inv h
 obtain⟨z5,hr,h⟩:=h
 refine call_go rfl rfl ?_
 try cbv
 refine call_with hM hI [.ext 0] (T26 _ hr) rfl (by simp) ⟨rfl,trivial⟩ ⟨trivial,trivial⟩ (by simp) ?_
 clear hr
 try cbv
 refine seq_go ?_
 try cbv
 refine loop_inv (T:=Nat×Int×Int) [0,3,4] [.ext 0,.loc 0] 192 (fun t=>⟨[sE 0 0,sL 3 0,sI 4 t.2.1],[(.ext 0,.cells [.d (.int .i64 t.2.2)]),(.loc 0,.cells [.d (.int .u8 z1),.d (.str s2),.d (.list true 3 l3)])],192⟩)
   (fun t=>t.1<=n/\L28_1 t.1 l3 t.2.1 t.2.2=some r1) (fun t=>t.1) (n,((0:Int),z5)) ⟨Nat.le_refl _,h⟩ (by cbv) ?_
 clear h
 rintro⟨m1,z6,z7⟩ ⟨hm1,h⟩
 replace hm1:m1<=n:=hm1
 obtain _ | m1:=m1
 ·replace h:L28_1 0 l3 z6 z7=some r1:=h
  rw[L28_1]at h
  cases h
 replace h:L28_1 (m1+1) l3 z6 z7=some r1:=h
 rw[L28_1]at h
 try cbv
 refine seq_go ?_
 try cbv
 refine seq_joinB 20 [0,3,4,20] [.ext 0,.loc 0] 576 (fun m b=>m<=m1/\L28_2 m l3 z6 z7 b=some r1) ?_ ?_
 ·try cbv
  replace h:=lenF_inv M h
  obtain⟨z8,hz,h⟩:=h
  refine⟨z8,hz,?_⟩
  clear hz
  try cbv
  refine splitL (fun e=>?_) (fun e=>?_)
  ·replace h:=ite_t e h
   clear e
   try cbv
   refine splitLe (fun e=>?_) (fun e=>?_)
   ·replace h:=ite_t e h
    clear e
    try cbv
    exact join_next (m1,true) [0,3,4,20] [.ext 0,.loc 0] 576 ⟨by omega,h⟩ (by cbv)
   replace h:=ite_f (Int.not_le.2 e) h
   clear e
   try cbv
   exact join_next (m1,false) [0,3,4,20] [.ext 0,.loc 0] 576 ⟨by omega,h⟩ (by cbv)
  replace h:=ite_f (Int.not_lt.2 e) h
  clear e
  try cbv
  exact join_next (m1,false) [0,3,4,20] [.ext 0,.loc 0] 576 ⟨by omega,h⟩ (by cbv)
 clear h
 rintro⟨m2,b9⟩ ⟨hm2,h⟩
 try cbv
 replace hm2:m2<=m1:=hm2
 obtain _ | m2:=m2
 ·replace h:L28_2 0 l3 z6 z7 b9=some r1:=h
  rw[L28_2]at h
  cases h
 replace h:L28_2 (m2+1) l3 z6 z7 b9=some r1:=h
 rw[L28_2]at h
 try cbv
 cases b9
 ·replace h:=itF h
  try cbv
  obtain rfl:=Option.some.inj h
  refine fin_go ?_
  try cbv
  exact⟨[],rfl,rfl,⟨rfl,trivial⟩,trivial,trivial⟩
 replace h:=itT h
 try cbv
 refine seq_go ?_
 try cbv
 replace h:=getF_inv h
 obtain⟨x10,⟨hx0,hx⟩,h⟩:=h
 refine⟨x10,hx0,hx,?_⟩
 clear hx0 hx
 replace h:=ds_t33_inv h
 obtain⟨z11,s12,l13,rfl,h⟩:=h
 try cbv
 replace h:=bO1_inv h
 obtain⟨z14,hr,h⟩:=h
 refine call_go rfl rfl ?_
 try cbv
 refine call_with hM hI [.ext 0] ((ih _ (by omega)) hr) rfl (by simp) ⟨rfl,trivial⟩ ⟨trivial,trivial⟩ (by simp) ?_
 clear hr
 try cbv
 replace h:=letF_inv h
 obtain⟨z15,hz,h⟩:=h
 refine⟨z15,hz,?_⟩
 clear hz
 try cbv
 exact loop_next (m2,(z15,z14)) [0,3,4] [.ext 0,.loc 0] 192 ⟨by omega,h⟩ (Nat.lt_succ_of_le (by omega)) (by cbv)
end Go.Proofs.YtjmofeakajdbiaaGreatDoor
end
