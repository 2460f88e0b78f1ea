/- Part of a proof. No condition. (Part 6.) -/
import Derived.Carry
import Derived.ChangeSame
import Derived.ChangeOld
import Derived.ChangeCalls
import Derived.WideShapes
import Derived.Test.YtjmofeakajdbiaaGreatDoorJoiE
set_option linter.unusedVariables false
set_option linter.unusedSimpArgs false
set_option maxRecDepth 100000
set_option maxHeartbeats 40000000
set_option linter.unusedVariables false
noncomputable section
namespace Go.Proofs.YtjmofeakajdbiaaGreatDoor
open Go Go.AM
mutual
def L113_1:Nat->LD->Int->LD->Int->Option LD
 | 0,_,_,_,_=>none
 | n+1,l1,z2,l3,z4=>
  (if z4<z2 then L113_2 n l1 z2 l3 z4 true else L113_2 n l1 z2 l3 z4 false)
def L113_2:Nat->LD->Int->LD->Int->Bool->Option LD
 | 0,_,_,_,_,_=>none
 | n+1,l1,z2,l3,z4,b5=>
  (if b5=true then getF l1 z4 fun x6=>ds_t45 x6 fun z7 s8 l9 z10 s11 l12 l13 z14 z15 s16 s17 s18 l19 l20 z21 z22=>bO14 (F114 n z7 s8 l9 z10 s11 l12 l13 z14 z15 s16 s17 s18 l19 l20 z21 z22) fun z23 s24 l25 z26 s27 l28 l29 z30 z31 s32 s33 s34 l35 l36=>appF 248 l3 ([.agg [.int .u8 z23,.str s24,.list true 4 l25,.int .u8 z26,.str s27,.list true 3 l28,.list true 15 l29,.int .u8 z30,.int .i64 z31,.str s32,.str s33,.str s34,.list false 1 l35,.list true 8 l36,.int .i64 0,.int .i64 0]]) fun l37=>letF (IntKind.wrap .i64 (z4+1)) fun z38=>L113_1 n l1 z2 l37 z38 else some l3)
end
def F113 (n:Nat) (l1:LD):Option LD:=
 lenF l1 fun z2=>L113_1 n l1 z2 ([]:LD) (0:Int)
theorem T113 (n:Nat):∀⦃l1 r1⦄,F113 n l1=some r1->
    Trip Tryz.prog inv 113 [.d (.list true 16 l1),.c (.fn 114 [.ext 0,.ext 1,.ext 2,.ext 4,.ext 5])] [.cells [.fn 112 [.ext 1]],.cells [.fn 102 [.ext 1]],.cells [.fn 110 [.ext 1,.ext 3,.ext 4,.ext 2,.ext 6,.ext 5]],.cells [.fn 104 []],.cells [.fn 106 [.ext 3,.ext 4,.ext 5]],.cells [.fn 58 []],.cells [.fn 108 [.ext 2]]] (.v (.d (.list true 16 r1))) [.cells [.fn 112 [.ext 1]],.cells [.fn 102 [.ext 1]],.cells [.fn 110 [.ext 1,.ext 3,.ext 4,.ext 2,.ext 6,.ext 5]],.cells [.fn 104 []],.cells [.fn 106 [.ext 3,.ext 4,.ext 5]],.cells [.fn 58 []],.cells [.fn 108 [.ext 2]]] []:=by
 intro l1 r1 h
 unfold F113 at h
 refine Trip.of tab_ok tab_one fol Tryz.func113 rfl (by kernel_rfl) rfl rfl rfl (fun M hM hI=>?_)
 try cbv
 refine seq_go ?_
 try cbv
 refine seq_go ?_
 try cbv
 refine seq_go ?_
 try cbv
 refine seq_go ?_
 try cbv
 replace h:=lenF_inv M h
 obtain⟨z2,hz,h⟩:=h
 refine⟨z2,hz,?_⟩
 clear hz
 try cbv
 refine loop_invT (T:=Nat×LD×Int) [.slot 5 true 16 45] [1,4,5,8,9,10] [.ext 0,.ext 1,.ext 2,.ext 3,.ext 4,.ext 5,.ext 6,.loc 160] 192 (fun t=>⟨[(1,.v (.c (.fn 114 [.ext 0,.ext 1,.ext 2,.ext 4,.ext 5]))),(4,.v (.c (.nils true 16))),(5,.v (.c (.lst (.loc 160) true 16 t.2.1))),sT 8 16 l1,sI 9 z2,sI 10 t.2.2],[(.ext 0,.cells [.fn 112 [.ext 1]]),(.ext 1,.cells [.fn 102 [.ext 1]]),(.ext 2,.cells [.fn 110 [.ext 1,.ext 3,.ext 4,.ext 2,.ext 6,.ext 5]]),(.ext 3,.cells [.fn 104 []]),(.ext 4,.cells [.fn 106 [.ext 3,.ext 4,.ext 5]]),(.ext 5,.cells [.fn 58 []]),(.ext 6,.cells [.fn 108 [.ext 2]]),(.loc 160,.tok t.2.1.length 16 45)],192⟩)
   (fun t=>t.1<=n/\L113_1 t.1 l1 z2 t.2.1 t.2.2=some r1) (fun t=>t.1) (n,(([]:LD),(0:Int))) ⟨Nat.le_refl _,h⟩ (by cbv) ?_
 clear h
 rintro⟨m1,l3,z4⟩ ⟨hm1,h⟩
 replace hm1:m1<=n:=hm1
 obtain _ | m1:=m1
 ·replace h:L113_1 0 l1 z2 l3 z4=some r1:=h
  rw[L113_1]at h
  cases h
 replace h:L113_1 (m1+1) l1 z2 l3 z4=some r1:=h
 rw[L113_1]at h
 try cbv
 refine seq_joinB 11 [1,4,5,8,9,10,11] [.ext 0,.ext 1,.ext 2,.ext 3,.ext 4,.ext 5,.ext 6,.loc 160] 224 (fun m b=>m<=m1/\L113_2 m l1 z2 l3 z4 b=some r1) ?_ ?_
 ·try cbv
  refine splitL (fun e=>?_) (fun e=>?_)
  ·replace h:=ite_t e h
   clear e
   try cbv
   exact join_next (m1,true) [1,4,5,8,9,10,11] [.ext 0,.ext 1,.ext 2,.ext 3,.ext 4,.ext 5,.ext 6,.loc 160] 224 ⟨by omega,h⟩ (by cbv)
  replace h:=ite_f (Int.not_lt.2 e) h
  clear e
  try cbv
  exact join_next (m1,false) [1,4,5,8,9,10,11] [.ext 0,.ext 1,.ext 2,.ext 3,.ext 4,.ext 5,.ext 6,.loc 160] 224 ⟨by omega,h⟩ (by cbv)
 clear h
 rintro⟨m2,b5⟩ ⟨hm2,h⟩
 try cbv
 replace hm2:m2<=m1:=hm2
 obtain _ | m2:=m2
 ·replace h:L113_2 0 l1 z2 l3 z4 b5=some r1:=h
  rw[L113_2]at h
  cases h
 replace h:L113_2 (m2+1) l1 z2 l3 z4 b5=some r1:=h
 rw[L113_2]at h
 try cbv
 refine seq_go ?_
 try cbv
 cases b5
 ·replace h:=itF h
  try cbv
  refine seq_go ?_
  try cbv
  obtain rfl:=Option.some.inj h
  refine fin_go ?_
  try cbv
  exact⟨[],rfl,rfl,⟨rfl,⟨rfl,⟨rfl,⟨rfl,⟨rfl,⟨rfl,⟨rfl,trivial⟩⟩⟩⟩⟩⟩⟩,trivial,trivial⟩
 replace h:=itT h
 try cbv
 refine seq_go ?_
 try cbv
 refine seq_go ?_
 try cbv
 replace h:=getF_inv h
 obtain⟨x6,⟨hx0,hx⟩,h⟩:=h
 refine⟨x6,hx0,hx,?_⟩
 clear hx0 hx
 replace h:=ds_t45_inv h
 obtain⟨z7,s8,l9,z10,s11,l12,l13,z14,z15,s16,s17,s18,l19,l20,z21,z22,rfl,h⟩:=h
 try cbv
 replace h:=bO14_inv h
 obtain⟨z23,s24,l25,z26,s27,l28,l29,z30,z31,s32,s33,s34,l35,l36,hr,h⟩:=h
 refine call_go rfl rfl ?_
 try cbv
 refine call_with hM hI [.ext 0,.ext 1,.ext 2,.ext 3,.ext 4,.ext 5,.ext 6] (T114 _ hr) rfl (by simp) ⟨rfl,⟨rfl,⟨rfl,⟨rfl,⟨rfl,⟨rfl,⟨rfl,trivial⟩⟩⟩⟩⟩⟩⟩ ⟨trivial,⟨trivial,⟨trivial,⟨trivial,⟨trivial,⟨trivial,⟨trivial,trivial⟩⟩⟩⟩⟩⟩⟩ (by simp) ?_
 clear hr
 try cbv
 refine⟨false,?_⟩
 try cbv
 refine⟨true,?_⟩
 try cbv
 replace h:=appF_inv h
 obtain⟨l37,hb,hz,h⟩:=h
 refine⟨false,?_⟩
 try cbv
 first | refine⟨rfl,(M.lock_iff _).2 hb,l37,hz,?_⟩ | refine⟨(M.lock_iff _).2 hb,l37,hz,?_⟩
 clear hb hz
 try cbv
 replace h:=letF_inv h
 obtain⟨z38,hz,h⟩:=h
 refine⟨z38,hz,?_⟩
 clear hz
 try cbv
 exact loop_next (m2,(l37,z38)) [1,4,5,8,9,10] [.ext 0,.ext 1,.ext 2,.ext 3,.ext 4,.ext 5,.ext 6,.loc 160] 192 ⟨by omega,h⟩ (Nat.lt_succ_of_le (by omega)) (by cbv)
def F56 (n:Nat) (l1:LD):Option LD:=
 bO1 (F113 n l1) fun l2=>some l2
theorem T56 (n:Nat):∀⦃l1 r1⦄,F56 n l1=some r1->
    Trip Tryz.prog inv 56 [.d (.agg [.list true 16 l1]),.c (.fn 58 [])] [] (.v (.d (.agg [.list true 16 r1]))) [] []:=by
 intro l1 r1 h
 unfold F56 at h
 refine Trip.of tab_ok tab_one fol Tryz.func56 rfl (by kernel_rfl) rfl rfl rfl (fun M hM hI=>?_)
 try cbv
 refine seq_go ?_
 try cbv
 refine seq_go ?_
 try cbv
 refine seq_go ?_
 try cbv
 refine seq_go ?_
 try cbv
 refine seq_go ?_
 try cbv
 refine seq_go ?_
 try cbv
 refine seq_go ?_
 try cbv
 refine seq_go ?_
 try cbv
 refine seq_go ?_
 try cbv
 refine seq_go ?_
 try cbv
 refine seq_go ?_
 try cbv
 replace h:=bO1_inv h
 obtain⟨l2,hr,h⟩:=h
 refine call_go rfl rfl ?_
 try cbv
 refine call_with hM hI [.loc 576,.loc 96,.loc 160,.loc 256,.loc 128,.loc 32,.loc 416] (T113 _ hr) rfl (by simp) ⟨rfl,⟨rfl,⟨rfl,⟨rfl,⟨rfl,⟨rfl,⟨rfl,trivial⟩⟩⟩⟩⟩⟩⟩ ⟨trivial,⟨trivial,⟨trivial,⟨trivial,⟨trivial,⟨trivial,⟨trivial,trivial⟩⟩⟩⟩⟩⟩⟩ (by simp) ?_
 clear hr
 try cbv
 obtain rfl:=Option.some.inj h
 refine fin_go ?_
 try cbv
 exact⟨[],by trivial⟩
def F24 (n:Nat) (l1:LD):Option LD:=
 bO1 (F56 n l1) fun l2=>some l2
theorem T24 (n:Nat):∀⦃l1 r1⦄,F24 n l1=some r1->
    Trip Tryz.prog inv 24 [.d (.agg [.list true 16 l1])] [] (.v (.d (.agg [.list true 16 r1]))) [] []:=by
 intro l1 r1 h
 unfold F24 at h
 refine Trip.of tab_ok tab_one fol Tryz.func24 rfl (by kernel_rfl) rfl rfl rfl (fun M hM hI=>?_)
 try cbv
 refine seq_go ?_
 try cbv
 refine seq_go ?_
 try cbv
 replace h:=bO1_inv h
 obtain⟨l2,hr,h⟩:=h
 refine call_go rfl rfl ?_
 try cbv
 refine call_pure hM hI (T56 _ hr) rfl ?_
 clear hr
 try cbv
 obtain rfl:=Option.some.inj h
 refine fin_go ?_
 try cbv
 exact⟨[],by trivial⟩
mutual
def L116_1:Nat->LD->LD->Bool->Option (Bool)
 | 0,_,_,_=>none
 | n+1,l1,l2,b5=>
  (if b5=true then some false else lenF l1 fun z6=>L116_2 n l1 l2 z6 (0:Int))
def L116_2:Nat->LD->LD->Int->Int->Option (Bool)
 | 0,_,_,_,_=>none
 | n+1,l1,l2,z6,z7=>
  (if z7<z6 then L116_3 n l1 l2 z6 z7 true else L116_3 n l1 l2 z6 z7 false)
def L116_3:Nat->LD->LD->Int->Int->Bool->Option (Bool)
 | 0,_,_,_,_,_=>none
 | n+1,l1,l2,z6,z7,b8=>
  (if b8=true then getF l1 z7 fun x9=>ds_t33 x9 fun z10 s11 l12=>getF l2 z7 fun x13=>ds_t33 x13 fun z14 s15 l16=>bO1 (F61 n z10 s11 l12 z14 s15 l16) fun b17=>letB (!b17) fun b18=>(if b18=true then some false else letF (IntKind.wrap .i64 (z7+1)) fun z19=>L116_2 n l1 l2 z6 z19)else some true)
def F116:Nat->LD->LD->Option (Bool)
 | 0,_,_=>none
 | n+1,l1,l2=>
  lenF l1 fun z3=>lenF l2 fun z4=>(if z3=z4 then L116_1 n l1 l2 false else L116_1 n l1 l2 true)
def F61:Nat->Int->BA->LD->Int->BA->LD->Option (Bool)
 | 0,_,_,_,_,_,_=>none
 | n+1,z1,s2,l3,z4,s5,l6=>
  (if z1=z4 then (if s2=s5 then bO1 (F116 n l3 l6) fun b7=>some b7 else some false)else some false)
end
theorem G116 (n:Nat):(∀⦃l1 l2 r1⦄,F116 n l1 l2=some r1->
    Trip Tryz.prog inv 116 [.d (.list true 3 l1),.d (.list true 3 l2),.c (.fn 61 [])] [] (.v (.d (.bool r1))) [] [])/\
    (∀⦃z1 s2 l3 z4 s5 l6 r1⦄,F61 n z1 s2 l3 z4 s5 l6=some r1->
    Trip Tryz.prog inv 61 [.d (.agg [.int .u8 z1,.str s2,.list true 3 l3]),.d (.agg [.int .u8 z4,.str s5,.list true 3 l6])] [] (.v (.d (.bool r1))) [] []):=by
 induction n using Nat.strongRecOn with | _ n ih=>
 obtain _ | n:=n
 ·refine⟨?_,?_⟩
  ·intro l1 l2 r1 h
   cases (show (none:Option _)=some _ from h)
  intro z1 s2 l3 z4 s5 l6 r1 h
  cases (show (none:Option _)=some _ from h)
 refine⟨?_,?_⟩
 rotate_left
 ·intro z1 s2 l3 z4 s5 l6 r1 h
  rw[F61]at h
  refine Trip.of tab_ok tab_one fol Tryz.func61 rfl (by kernel_rfl) rfl rfl rfl (fun M hM hI=>?_)
  try cbv
  refine seq_go ?_
  try cbv
  refine seq_go ?_
  try cbv
  refine splitI (fun e=>?_) (fun e=>?_)
  rotate_left
  ·replace h:=ite_f e h
   clear e
   try cbv
   obtain rfl:=Option.some.inj h
   refine fin_go ?_
   try cbv
   exact⟨[],by trivial⟩
  replace h:=ite_t e h
  clear e
  try cbv
  refine splitS (fun e=>?_) (fun e=>?_)
  ·replace h:=ite_t (bytes_eq.1 e) h
   clear e
   try cbv
   replace h:=bO1_inv h
   obtain⟨b7,hr,h⟩:=h
   refine call_go rfl rfl ?_
   try cbv
   refine call_pure hM hI ((ih _ (by omega)).1 hr) rfl ?_
   clear hr
   try cbv
   obtain rfl:=Option.some.inj h
   refine fin_go ?_
   try cbv
   exact⟨[],by trivial⟩
  replace h:=ite_f (bytes_ne.1 e) h
  clear e
  try cbv
  obtain rfl:=Option.some.inj h
  refine fin_go ?_
  try cbv
  exact⟨[],by trivial⟩
 intro l1 l2 r1 h
 rw[F116]at h
 refine Trip.of tab_ok tab_one fol Tryz.func116 rfl (by kernel_rfl) rfl rfl rfl (fun M hM hI=>?_)
 try cbv
 refine seq_go ?_
 try cbv
 refine seq_go ?_
 try cbv
 refine seq_joinB 14 [0,1,2,6,14] [] 192 (fun m b=>m<=n/\L116_1 m l1 l2 b=some r1) ?_ ?_
 ·try cbv
  replace h:=lenF_inv M h
  obtain⟨z3,hz,h⟩:=h
  refine⟨z3,hz,?_⟩
  clear hz
  try cbv
  replace h:=lenF_inv M h
  obtain⟨z4,hz,h⟩:=h
  refine⟨z4,hz,?_⟩
  clear hz
  try cbv
  refine splitI (fun e=>?_) (fun e=>?_)
  ·replace h:=ite_t e h
   clear e
   try cbv
   exact join_next (n,false) [0,1,2,6,14] [] 192 ⟨by omega,h⟩ (by cbv)
  replace h:=ite_f e h
  clear e
  try cbv
  exact join_next (n,true) [0,1,2,6,14] [] 192 ⟨by omega,h⟩ (by cbv)
 clear h
 rintro⟨m1,b5⟩ ⟨hm1,h⟩
 try cbv
 replace hm1:m1<=n:=hm1
 obtain _ | m1:=m1
 ·replace h:L116_1 0 l1 l2 b5=some r1:=h
  rw[L116_1]at h
  cases h
 replace h:L116_1 (m1+1) l1 l2 b5=some r1:=h
 rw[L116_1]at h
 try cbv
 cases b5
 rotate_left
 ·replace h:=itT h
  try cbv
  refine seq_go ?_
  try cbv
  obtain rfl:=Option.some.inj h
  refine fin_go ?_
  try cbv
  exact⟨[],by trivial⟩
 replace h:=itF h
 try cbv
 refine seq_go ?_
 try cbv
 refine seq_go ?_
 try cbv
 replace h:=lenF_inv M h
 obtain⟨z6,hz,h⟩:=h
 refine⟨z6,hz,?_⟩
 clear hz
 try cbv
 refine loop_inv (T:=Nat×Int) [1,2,6,15,16,17] [] 288 (fun t=>⟨[sT 1 3 l2,(2,.v (.c (.fn 61 []))),sB 6 false,sT 15 3 l1,sI 16 z6,sI 17 t.2],[],288⟩)
   (fun t=>t.1<=m1/\L116_2 t.1 l1 l2 z6 t.2=some r1) (fun t=>t.1) (m1,(0:Int)) ⟨Nat.le_refl _,h⟩ (by cbv) ?_
 clear h
 rintro⟨m2,z7⟩ ⟨hm2,h⟩
 replace hm2:m2<=m1:=hm2
 obtain _ | m2:=m2
 ·replace h:L116_2 0 l1 l2 z6 z7=some r1:=h
  rw[L116_2]at h
  cases h
 replace h:L116_2 (m2+1) l1 l2 z6 z7=some r1:=h
 rw[L116_2]at h
 try cbv
 refine seq_joinB 18 [1,2,6,15,16,17,18] [] 320 (fun m b=>m<=m2/\L116_3 m l1 l2 z6 z7 b=some r1) ?_ ?_
 ·try cbv
  refine splitL (fun e=>?_) (fun e=>?_)
  ·replace h:=ite_t e h
   clear e
   try cbv
   exact join_next (m2,true) [1,2,6,15,16,17,18] [] 320 ⟨by omega,h⟩ (by cbv)
  replace h:=ite_f (Int.not_lt.2 e) h
  clear e
  try cbv
  exact join_next (m2,false) [1,2,6,15,16,17,18] [] 320 ⟨by omega,h⟩ (by cbv)
 clear h
 rintro⟨m3,b8⟩ ⟨hm3,h⟩
 try cbv
 replace hm3:m3<=m2:=hm3
 obtain _ | m3:=m3
 ·replace h:L116_3 0 l1 l2 z6 z7 b8=some r1:=h
  rw[L116_3]at h
  cases h
 replace h:L116_3 (m3+1) l1 l2 z6 z7 b8=some r1:=h
 rw[L116_3]at h
 try cbv
 refine seq_go ?_
 try cbv
 cases b8
 ·replace h:=itF h
  try cbv
  refine seq_go ?_
  try cbv
  obtain rfl:=Option.some.inj h
  refine fin_go ?_
  try cbv
  exact⟨[],by trivial⟩
 replace h:=itT h
 try cbv
 refine seq_go ?_
 try cbv
 refine seq_go ?_
 try cbv
 replace h:=getF_inv h
 obtain⟨x9,⟨hx0,hx⟩,h⟩:=h
 refine⟨x9,hx0,hx,?_⟩
 clear hx0 hx
 replace h:=ds_t33_inv h
 obtain⟨z10,s11,l12,rfl,h⟩:=h
 try cbv
 refine seq_go ?_
 try cbv
 replace h:=getF_inv h
 obtain⟨x13,⟨hx0,hx⟩,h⟩:=h
 refine⟨x13,hx0,hx,?_⟩
 clear hx0 hx
 replace h:=ds_t33_inv h
 obtain⟨z14,s15,l16,rfl,h⟩:=h
 try cbv
 refine seq_go ?_
 try cbv
 replace h:=bO1_inv h
 obtain⟨b17,hr,h⟩:=h
 refine call_go rfl rfl ?_
 try cbv
 refine call_pure hM hI ((ih _ (by omega)).2 hr) rfl ?_
 clear hr
 try cbv
 replace h:=letB_inv h
 obtain⟨b18,hz,h⟩:=h
 refine⟨b18,not_eq' hz,?_⟩
 clear hz
 try cbv
 cases b18
 ·replace h:=itF h
  try cbv
  replace h:=letF_inv h
  obtain⟨z19,hz,h⟩:=h
  refine⟨z19,hz,?_⟩
  clear hz
  try cbv
  exact loop_next (m3,z19) [1,2,6,15,16,17] [] 288 ⟨by omega,h⟩ (Nat.lt_succ_of_le (by omega)) (by cbv)
 replace h:=itT h
 try cbv
 refine seq_go ?_
 try cbv
 obtain rfl:=Option.some.inj h
 refine fin_go ?_
 try cbv
 exact⟨[],by trivial⟩
theorem T61 (n:Nat):∀⦃z1 s2 l3 z4 s5 l6 r1⦄,F61 n z1 s2 l3 z4 s5 l6=some r1->
  Trip Tryz.prog inv 61 [.d (.agg [.int .u8 z1,.str s2,.list true 3 l3]),.d (.agg [.int .u8 z4,.str s5,.list true 3 l6])] [] (.v (.d (.bool r1))) [] []:=(G116 n).2
mutual
def F141:Nat->BA->BA->LD->BA->BA->LD->Option (Bool)
 | 0,_,_,_,_,_,_=>none
 | n+1,s1,s2,l3,s4,s5,l6=>
  (if s1=s4 then (if s2=s5 then bO1 (F63 n l3 l6) fun b7=>some b7 else some false)else some false)
def L140_1:Nat->LD->LD->Bool->Option (Bool)
 | 0,_,_,_=>none
 | n+1,l1,l2,b5=>
  (if b5=true then some false else lenF l1 fun z6=>L140_2 n l1 l2 z6 (0:Int))
def L140_2:Nat->LD->LD->Int->Int->Option (Bool)
 | 0,_,_,_,_=>none
 | n+1,l1,l2,z6,z7=>
  (if z7<z6 then L140_3 n l1 l2 z6 z7 true else L140_3 n l1 l2 z6 z7 false)
def L140_3:Nat->LD->LD->Int->Int->Bool->Option (Bool)
 | 0,_,_,_,_,_=>none
 | n+1,l1,l2,z6,z7,b8=>
  (if b8=true then getF l1 z7 fun x9=>ds_t95 x9 fun s10 s11 l12=>getF l2 z7 fun x13=>ds_t95 x13 fun s14 s15 l16=>bO1 (F141 n s10 s11 l12 s14 s15 l16) fun b17=>letB (!b17) fun b18=>(if b18=true then some false else letF (IntKind.wrap .i64 (z7+1)) fun z19=>L140_2 n l1 l2 z6 z19)else some true)
def F140:Nat->LD->LD->Option (Bool)
 | 0,_,_=>none
 | n+1,l1,l2=>
  lenF l1 fun z3=>lenF l2 fun z4=>(if z3=z4 then L140_1 n l1 l2 false else L140_1 n l1 l2 true)
def F120:Nat->Int->BA->BA->LD->Int->BA->LD->Int->BA->LD->LD->LD->LD->LD->Int->Int->BA->BA->LD->Int->BA->LD->Int->BA->LD->LD->LD->LD->LD->Int->Option (Bool)
 | 0,_,_,_,_,_,_,_,_,_,_,_,_,_,_,_,_,_,_,_,_,_,_,_,_,_,_,_,_,_,_=>none
 | n+1,z1,s2,s3,l4,z5,s6,l7,z8,s9,l10,l11,l12,l13,l14,z15,z16,s17,s18,l19,z20,s21,l22,z23,s24,l25,l26,l27,l28,l29,z30=>
  (if z1=z16 then (if s2=s17 then (if s3=s18 then bO1 (F139 n l4 l19) fun b31=>(if b31=true then bO1 (F61 n z5 s6 l7 z20 s21 l22) fun b32=>(if b32=true then (if z8=z23 then bO1 (F117 n s9 l10 s24 l25) fun b33=>(if b33=true then bO1 (F118 n l11 l26) fun b34=>(if b34=true then bO1 (F63 n l12 l27) fun b35=>(if b35=true then bO1 (F63 n l13 l28) fun b36=>(if b36=true then bO1 (F140 n l14 l29) fun b37=>some b37 else some false)else some false)else some false)else some false)else some false)else some false)else some false)else some false)else some false)else some false)
def L119_1:Nat->LD->LD->Bool->Option (Bool)
 | 0,_,_,_=>none
 | n+1,l1,l2,b5=>
  (if b5=true then some false else lenF l1 fun z6=>L119_2 n l1 l2 z6 (0:Int))
def L119_2:Nat->LD->LD->Int->Int->Option (Bool)
 | 0,_,_,_,_=>none
 | n+1,l1,l2,z6,z7=>
  (if z7<z6 then L119_3 n l1 l2 z6 z7 true else L119_3 n l1 l2 z6 z7 false)
def L119_3:Nat->LD->LD->Int->Int->Bool->Option (Bool)
 | 0,_,_,_,_,_=>none
 | n+1,l1,l2,z6,z7,b8=>
  (if b8=true then getF l1 z7 fun x9=>ds_t50 x9 fun z10 s11 s12 l13 z14 s15 l16 z17 s18 l19 l20 l21 l22 l23 z24=>getF l2 z7 fun x25=>ds_t50 x25 fun z26 s27 s28 l29 z30 s31 l32 z33 s34 l35 l36 l37 l38 l39 z40=>bO1 (F120 n z10 s11 s12 l13 z14 s15 l16 z17 s18 l19 l20 l21 l22 l23 z24 z26 s27 s28 l29 z30 s31 l32 z33 s34 l35 l36 l37 l38 l39 z40) fun b41=>letB (!b41) fun b42=>(if b42=true then some false else letF (IntKind.wrap .i64 (z7+1)) fun z43=>L119_2 n l1 l2 z6 z43)else some true)
def F119:Nat->LD->LD->Option (Bool)
 | 0,_,_=>none
 | n+1,l1,l2=>
  lenF l1 fun z3=>lenF l2 fun z4=>(if z3=z4 then L119_1 n l1 l2 false else L119_1 n l1 l2 true)
def F63:Nat->LD->LD->Option (Bool)
 | 0,_,_=>none
 | n+1,l1,l2=>
  bO1 (F119 n l1 l2) fun b3=>some b3
end
theorem G141 (n:Nat):(∀⦃s1 s2 l3 s4 s5 l6 r1⦄,F141 n s1 s2 l3 s4 s5 l6=some r1->
    Trip Tryz.prog inv 141 [.d (.agg [.str s1,.str s2,.list true 15 l3]),.d (.agg [.str s4,.str s5,.list true 15 l6])] [] (.v (.d (.bool r1))) [] [])/\
    (∀⦃l1 l2 r1⦄,F140 n l1 l2=some r1->
    Trip Tryz.prog inv 140 [.d (.list true 3 l1),.d (.list true 3 l2),.c (.fn 141 [])] [] (.v (.d (.bool r1))) [] [])/\
    (∀⦃z1 s2 s3 l4 z5 s6 l7 z8 s9 l10 l11 l12 l13 l14 z15 z16 s17 s18 l19 z20 s21 l22 z23 s24 l25 l26 l27 l28 l29 z30 r1⦄,F120 n z1 s2 s3 l4 z5 s6 l7 z8 s9 l10 l11 l12 l13 l14 z15 z16 s17 s18 l19 z20 s21 l22 z23 s24 l25 l26 l27 l28 l29 z30=some r1->
    Trip Tryz.prog inv 120 [.d (.agg [.int .u8 z1,.str s2,.str s3,.list false 1 l4,.int .u8 z5,.str s6,.list true 3 l7,.int .i64 z8,.str s9,.list false 1 l10,.list true 8 l11,.list true 15 l12,.list true 15 l13,.list true 3 l14,.int .i64 z15]),.d (.agg [.int .u8 z16,.str s17,.str s18,.list false 1 l19,.int .u8 z20,.str s21,.list true 3 l22,.int .i64 z23,.str s24,.list false 1 l25,.list true 8 l26,.list true 15 l27,.list true 15 l28,.list true 3 l29,.int .i64 z30])] [] (.v (.d (.bool r1))) [] [])/\
    (∀⦃l1 l2 r1⦄,F119 n l1 l2=some r1->
    Trip Tryz.prog inv 119 [.d (.list true 15 l1),.d (.list true 15 l2),.c (.fn 120 [])] [] (.v (.d (.bool r1))) [] [])/\
    (∀⦃l1 l2 r1⦄,F63 n l1 l2=some r1->
    Trip Tryz.prog inv 63 [.d (.list true 15 l1),.d (.list true 15 l2)] [] (.v (.d (.bool r1))) [] []):=by
 induction n using Nat.strongRecOn with | _ n ih=>
 obtain _ | n:=n
 ·refine⟨?_,?_,?_,?_,?_⟩
  ·intro s1 s2 l3 s4 s5 l6 r1 h
   cases (show (none:Option _)=some _ from h)
  ·intro l1 l2 r1 h
   cases (show (none:Option _)=some _ from h)
  ·intro z1 s2 s3 l4 z5 s6 l7 z8 s9 l10 l11 l12 l13 l14 z15 z16 s17 s18 l19 z20 s21 l22 z23 s24 l25 l26 l27 l28 l29 z30 r1 h
   cases (show (none:Option _)=some _ from h)
  ·intro l1 l2 r1 h
   cases (show (none:Option _)=some _ from h)
  intro l1 l2 r1 h
  cases (show (none:Option _)=some _ from h)
 refine⟨?_,?_,?_,?_,?_⟩
 ·intro s1 s2 l3 s4 s5 l6 r1 h
  rw[F141]at h
  refine Trip.of tab_ok tab_one fol Tryz.func141 rfl (by kernel_rfl) rfl rfl rfl (fun M hM hI=>?_)
  try cbv
  refine seq_go ?_
  try cbv
  refine seq_go ?_
  try cbv
  refine splitS (fun e=>?_) (fun e=>?_)
  rotate_left
  ·replace h:=ite_f (bytes_ne.1 e) h
   clear e
   try cbv
   obtain rfl:=Option.some.inj h
   refine fin_go ?_
   try cbv
   exact⟨[],by trivial⟩
  replace h:=ite_t (bytes_eq.1 e) h
  clear e
  try cbv
  refine splitS (fun e=>?_) (fun e=>?_)
  ·replace h:=ite_t (bytes_eq.1 e) h
   clear e
   try cbv
   replace h:=bO1_inv h
   obtain⟨b7,hr,h⟩:=h
   refine call_go rfl rfl ?_
   try cbv
   refine call_pure hM hI ((ih _ (by omega)).2.2.2.2 hr) rfl ?_
   clear hr
   try cbv
   obtain rfl:=Option.some.inj h
   refine fin_go ?_
   try cbv
   exact⟨[],by trivial⟩
  replace h:=ite_f (bytes_ne.1 e) h
  clear e
  try cbv
  obtain rfl:=Option.some.inj h
  refine fin_go ?_
  try cbv
  exact⟨[],by trivial⟩
 ·intro l1 l2 r1 h
  rw[F140]at h
  refine Trip.of tab_ok tab_one fol Tryz.func140 rfl (by kernel_rfl) rfl rfl rfl (fun M hM hI=>?_)
  try cbv
  refine seq_go ?_
  try cbv
  refine seq_go ?_
  try cbv
  refine seq_joinB 14 [0,1,2,6,14] [] 192 (fun m b=>m<=n/\L140_1 m l1 l2 b=some r1) ?_ ?_
  ·try cbv
   replace h:=lenF_inv M h
   obtain⟨z3,hz,h⟩:=h
   refine⟨z3,hz,?_⟩
   clear hz
   try cbv
   replace h:=lenF_inv M h
   obtain⟨z4,hz,h⟩:=h
   refine⟨z4,hz,?_⟩
   clear hz
   try cbv
   refine splitI (fun e=>?_) (fun e=>?_)
   ·replace h:=ite_t e h
    clear e
    try cbv
    exact join_next (n,false) [0,1,2,6,14] [] 192 ⟨by omega,h⟩ (by cbv)
   replace h:=ite_f e h
   clear e
   try cbv
   exact join_next (n,true) [0,1,2,6,14] [] 192 ⟨by omega,h⟩ (by cbv)
  clear h
  rintro⟨m1,b5⟩ ⟨hm1,h⟩
  try cbv
  replace hm1:m1<=n:=hm1
  obtain _ | m1:=m1
  ·replace h:L140_1 0 l1 l2 b5=some r1:=h
   rw[L140_1]at h
   cases h
  replace h:L140_1 (m1+1) l1 l2 b5=some r1:=h
  rw[L140_1]at h
  try cbv
  cases b5
  rotate_left
  ·replace h:=itT h
   try cbv
   refine seq_go ?_
   try cbv
   obtain rfl:=Option.some.inj h
   refine fin_go ?_
   try cbv
   exact⟨[],by trivial⟩
  replace h:=itF h
  try cbv
  refine seq_go ?_
  try cbv
  refine seq_go ?_
  try cbv
  replace h:=lenF_inv M h
  obtain⟨z6,hz,h⟩:=h
  refine⟨z6,hz,?_⟩
  clear hz
  try cbv
  refine loop_inv (T:=Nat×Int) [1,2,6,15,16,17] [] 288 (fun t=>⟨[sT 1 3 l2,(2,.v (.c (.fn 141 []))),sB 6 false,sT 15 3 l1,sI 16 z6,sI 17 t.2],[],288⟩)
    (fun t=>t.1<=m1/\L140_2 t.1 l1 l2 z6 t.2=some r1) (fun t=>t.1) (m1,(0:Int)) ⟨Nat.le_refl _,h⟩ (by cbv) ?_
  clear h
  rintro⟨m2,z7⟩ ⟨hm2,h⟩
  replace hm2:m2<=m1:=hm2
  obtain _ | m2:=m2
  ·replace h:L140_2 0 l1 l2 z6 z7=some r1:=h
   rw[L140_2]at h
   cases h
  replace h:L140_2 (m2+1) l1 l2 z6 z7=some r1:=h
  rw[L140_2]at h
  try cbv
  refine seq_joinB 18 [1,2,6,15,16,17,18] [] 320 (fun m b=>m<=m2/\L140_3 m l1 l2 z6 z7 b=some r1) ?_ ?_
  ·try cbv
   refine splitL (fun e=>?_) (fun e=>?_)
   ·replace h:=ite_t e h
    clear e
    try cbv
    exact join_next (m2,true) [1,2,6,15,16,17,18] [] 320 ⟨by omega,h⟩ (by cbv)
   replace h:=ite_f (Int.not_lt.2 e) h
   clear e
   try cbv
   exact join_next (m2,false) [1,2,6,15,16,17,18] [] 320 ⟨by omega,h⟩ (by cbv)
  clear h
  rintro⟨m3,b8⟩ ⟨hm3,h⟩
  try cbv
  replace hm3:m3<=m2:=hm3
  obtain _ | m3:=m3
  ·replace h:L140_3 0 l1 l2 z6 z7 b8=some r1:=h
   rw[L140_3]at h
   cases h
  replace h:L140_3 (m3+1) l1 l2 z6 z7 b8=some r1:=h
  rw[L140_3]at h
  try cbv
  refine seq_go ?_
  try cbv
  cases b8
  ·replace h:=itF h
   try cbv
   refine seq_go ?_
   try cbv
   obtain rfl:=Option.some.inj h
   refine fin_go ?_
   try cbv
   exact⟨[],by trivial⟩
  replace h:=itT h
  try cbv
  refine seq_go ?_
  try cbv
  refine seq_go ?_
  try cbv
  replace h:=getF_inv h
  obtain⟨x9,⟨hx0,hx⟩,h⟩:=h
  refine⟨x9,hx0,hx,?_⟩
  clear hx0 hx
  replace h:=ds_t95_inv h
  obtain⟨s10,s11,l12,rfl,h⟩:=h
  try cbv
  refine seq_go ?_
  try cbv
  replace h:=getF_inv h
  obtain⟨x13,⟨hx0,hx⟩,h⟩:=h
  refine⟨x13,hx0,hx,?_⟩
  clear hx0 hx
  replace h:=ds_t95_inv h
  obtain⟨s14,s15,l16,rfl,h⟩:=h
  try cbv
  refine seq_go ?_
  try cbv
  replace h:=bO1_inv h
  obtain⟨b17,hr,h⟩:=h
  refine call_go rfl rfl ?_
  try cbv
  refine call_pure hM hI ((ih _ (by omega)).1 hr) rfl ?_
  clear hr
  try cbv
  replace h:=letB_inv h
  obtain⟨b18,hz,h⟩:=h
  refine⟨b18,not_eq' hz,?_⟩
  clear hz
  try cbv
  cases b18
  ·replace h:=itF h
   try cbv
   replace h:=letF_inv h
   obtain⟨z19,hz,h⟩:=h
   refine⟨z19,hz,?_⟩
   clear hz
   try cbv
   exact loop_next (m3,z19) [1,2,6,15,16,17] [] 288 ⟨by omega,h⟩ (Nat.lt_succ_of_le (by omega)) (by cbv)
  replace h:=itT h
  try cbv
  refine seq_go ?_
  try cbv
  obtain rfl:=Option.some.inj h
  refine fin_go ?_
  try cbv
  exact⟨[],by trivial⟩
 ·intro z1 s2 s3 l4 z5 s6 l7 z8 s9 l10 l11 l12 l13 l14 z15 z16 s17 s18 l19 z20 s21 l22 z23 s24 l25 l26 l27 l28 l29 z30 r1 h
  rw[F120]at h
  refine Trip.of tab_ok tab_one fol Tryz.func120 rfl (by kernel_rfl) rfl rfl rfl (fun M hM hI=>?_)
  try cbv
  refine seq_go ?_
  try cbv
  refine seq_go ?_
  try cbv
  refine splitI (fun e=>?_) (fun e=>?_)
  rotate_left
  ·replace h:=ite_f e h
   clear e
   try cbv
   obtain rfl:=Option.some.inj h
   refine fin_go ?_
   try cbv
   exact⟨[],by trivial⟩
  replace h:=ite_t e h
  clear e
  try cbv
  refine splitS (fun e=>?_) (fun e=>?_)
  rotate_left
  ·replace h:=ite_f (bytes_ne.1 e) h
   clear e
   try cbv
   obtain rfl:=Option.some.inj h
   refine fin_go ?_
   try cbv
   exact⟨[],by trivial⟩
  replace h:=ite_t (bytes_eq.1 e) h
  clear e
  try cbv
  refine splitS (fun e=>?_) (fun e=>?_)
  rotate_left
  ·replace h:=ite_f (bytes_ne.1 e) h
   clear e
   try cbv
   obtain rfl:=Option.some.inj h
   refine fin_go ?_
   try cbv
   exact⟨[],by trivial⟩
  replace h:=ite_t (bytes_eq.1 e) h
  clear e
  try cbv
  replace h:=bO1_inv h
  obtain⟨b31,hr,h⟩:=h
  refine call_go rfl rfl ?_
  try cbv
  refine call_pure hM hI (T139 _ hr) rfl ?_
  clear hr
  try cbv
  cases b31
  ·replace h:=itF h
   try cbv
   obtain rfl:=Option.some.inj h
   refine fin_go ?_
   try cbv
   exact⟨[],by trivial⟩
  replace h:=itT h
  try cbv
  replace h:=bO1_inv h
  obtain⟨b32,hr,h⟩:=h
  refine call_go rfl rfl ?_
  try cbv
  refine call_pure hM hI (T61 _ hr) rfl ?_
  clear hr
  try cbv
  cases b32
  ·replace h:=itF h
   try cbv
   obtain rfl:=Option.some.inj h
   refine fin_go ?_
   try cbv
   exact⟨[],by trivial⟩
  replace h:=itT h
  try cbv
  refine splitI (fun e=>?_) (fun e=>?_)
  rotate_left
  ·replace h:=ite_f e h
   clear e
   try cbv
   obtain rfl:=Option.some.inj h
   refine fin_go ?_
   try cbv
   exact⟨[],by trivial⟩
  replace h:=ite_t e h
  clear e
  try cbv
  replace h:=bO1_inv h
  obtain⟨b33,hr,h⟩:=h
  refine call_go rfl rfl ?_
  try cbv
  refine call_pure hM hI (T117 _ hr) rfl ?_
  clear hr
  try cbv
  cases b33
  ·replace h:=itF h
   try cbv
   obtain rfl:=Option.some.inj h
   refine fin_go ?_
   try cbv
   exact⟨[],by trivial⟩
  replace h:=itT h
  try cbv
  replace h:=bO1_inv h
  obtain⟨b34,hr,h⟩:=h
  refine call_go rfl rfl ?_
  try cbv
  refine call_pure hM hI (T118 _ hr) rfl ?_
  clear hr
  try cbv
  cases b34
  ·replace h:=itF h
   try cbv
   obtain rfl:=Option.some.inj h
   refine fin_go ?_
   try cbv
   exact⟨[],by trivial⟩
  replace h:=itT h
  try cbv
  replace h:=bO1_inv h
  obtain⟨b35,hr,h⟩:=h
  refine call_go rfl rfl ?_
  try cbv
  refine call_pure hM hI ((ih _ (by omega)).2.2.2.2 hr) rfl ?_
  clear hr
  try cbv
  cases b35
  ·replace h:=itF h
   try cbv
   obtain rfl:=Option.some.inj h
   refine fin_go ?_
   try cbv
   exact⟨[],by trivial⟩
  replace h:=itT h
  try cbv
  replace h:=bO1_inv h
  obtain⟨b36,hr,h⟩:=h
  refine call_go rfl rfl ?_
  try cbv
  refine call_pure hM hI ((ih _ (by omega)).2.2.2.2 hr) rfl ?_
  clear hr
  try cbv
  cases b36
  ·replace h:=itF h
   try cbv
   obtain rfl:=Option.some.inj h
   refine fin_go ?_
   try cbv
   exact⟨[],by trivial⟩
  replace h:=itT h
  try cbv
  replace h:=bO1_inv h
  obtain⟨b37,hr,h⟩:=h
  refine call_go rfl rfl ?_
  try cbv
  refine call_pure hM hI ((ih _ (by omega)).2.1 hr) rfl ?_
  clear hr
  try cbv
  obtain rfl:=Option.some.inj h
  refine fin_go ?_
  try cbv
  exact⟨[],by trivial⟩
 ·intro l1 l2 r1 h
  rw[F119]at h
  refine Trip.of tab_ok tab_one fol Tryz.func119 rfl (by kernel_rfl) rfl rfl rfl (fun M hM hI=>?_)
  try cbv
  refine seq_go ?_
  try cbv
  refine seq_go ?_
  try cbv
  refine seq_joinB 14 [0,1,2,6,14] [] 192 (fun m b=>m<=n/\L119_1 m l1 l2 b=some r1) ?_ ?_
  ·try cbv
   replace h:=lenF_inv M h
   obtain⟨z3,hz,h⟩:=h
   refine⟨z3,hz,?_⟩
   clear hz
   try cbv
   replace h:=lenF_inv M h
   obtain⟨z4,hz,h⟩:=h
   refine⟨z4,hz,?_⟩
   clear hz
   try cbv
   refine splitI (fun e=>?_) (fun e=>?_)
   ·replace h:=ite_t e h
    clear e
    try cbv
    exact join_next (n,false) [0,1,2,6,14] [] 192 ⟨by omega,h⟩ (by cbv)
   replace h:=ite_f e h
   clear e
   try cbv
   exact join_next (n,true) [0,1,2,6,14] [] 192 ⟨by omega,h⟩ (by cbv)
  clear h
  rintro⟨m1,b5⟩ ⟨hm1,h⟩
  try cbv
  replace hm1:m1<=n:=hm1
  obtain _ | m1:=m1
  ·replace h:L119_1 0 l1 l2 b5=some r1:=h
   rw[L119_1]at h
   cases h
  replace h:L119_1 (m1+1) l1 l2 b5=some r1:=h
  rw[L119_1]at h
  try cbv
  cases b5
  rotate_left
  ·replace h:=itT h
   try cbv
   refine seq_go ?_
   try cbv
   obtain rfl:=Option.some.inj h
   refine fin_go ?_
   try cbv
   exact⟨[],by trivial⟩
  replace h:=itF h
  try cbv
  refine seq_go ?_
  try cbv
  refine seq_go ?_
  try cbv
  replace h:=lenF_inv M h
  obtain⟨z6,hz,h⟩:=h
  refine⟨z6,hz,?_⟩
  clear hz
  try cbv
  refine loop_inv (T:=Nat×Int) [1,2,6,15,16,17] [] 288 (fun t=>⟨[sT 1 15 l2,(2,.v (.c (.fn 120 []))),sB 6 false,sT 15 15 l1,sI 16 z6,sI 17 t.2],[],288⟩)
    (fun t=>t.1<=m1/\L119_2 t.1 l1 l2 z6 t.2=some r1) (fun t=>t.1) (m1,(0:Int)) ⟨Nat.le_refl _,h⟩ (by cbv) ?_
  clear h
  rintro⟨m2,z7⟩ ⟨hm2,h⟩
  replace hm2:m2<=m1:=hm2
  obtain _ | m2:=m2
  ·replace h:L119_2 0 l1 l2 z6 z7=some r1:=h
   rw[L119_2]at h
   cases h
  replace h:L119_2 (m2+1) l1 l2 z6 z7=some r1:=h
  rw[L119_2]at h
  try cbv
  refine seq_joinB 18 [1,2,6,15,16,17,18] [] 320 (fun m b=>m<=m2/\L119_3 m l1 l2 z6 z7 b=some r1) ?_ ?_
  ·try cbv
   refine splitL (fun e=>?_) (fun e=>?_)
   ·replace h:=ite_t e h
    clear e
    try cbv
    exact join_next (m2,true) [1,2,6,15,16,17,18] [] 320 ⟨by omega,h⟩ (by cbv)
   replace h:=ite_f (Int.not_lt.2 e) h
   clear e
   try cbv
   exact join_next (m2,false) [1,2,6,15,16,17,18] [] 320 ⟨by omega,h⟩ (by cbv)
  clear h
  rintro⟨m3,b8⟩ ⟨hm3,h⟩
  try cbv
  replace hm3:m3<=m2:=hm3
  obtain _ | m3:=m3
  ·replace h:L119_3 0 l1 l2 z6 z7 b8=some r1:=h
   rw[L119_3]at h
   cases h
  replace h:L119_3 (m3+1) l1 l2 z6 z7 b8=some r1:=h
  rw[L119_3]at h
  try cbv
  refine seq_go ?_
  try cbv
  cases b8
  ·replace h:=itF h
   try cbv
   refine seq_go ?_
   try cbv
   obtain rfl:=Option.some.inj h
   refine fin_go ?_
   try cbv
   exact⟨[],by trivial⟩
  replace h:=itT h
  try cbv
  refine seq_go ?_
  try cbv
  refine seq_go ?_
  try cbv
  replace h:=getF_inv h
  obtain⟨x9,⟨hx0,hx⟩,h⟩:=h
  refine⟨x9,hx0,hx,?_⟩
  clear hx0 hx
  replace h:=ds_t50_inv h
  obtain⟨z10,s11,s12,l13,z14,s15,l16,z17,s18,l19,l20,l21,l22,l23,z24,rfl,h⟩:=h
  try cbv
  refine seq_go ?_
  try cbv
  replace h:=getF_inv h
  obtain⟨x25,⟨hx0,hx⟩,h⟩:=h
  refine⟨x25,hx0,hx,?_⟩
  clear hx0 hx
  replace h:=ds_t50_inv h
  obtain⟨z26,s27,s28,l29,z30,s31,l32,z33,s34,l35,l36,l37,l38,l39,z40,rfl,h⟩:=h
  try cbv
  refine seq_go ?_
  try cbv
  replace h:=bO1_inv h
  obtain⟨b41,hr,h⟩:=h
  refine call_go rfl rfl ?_
  try cbv
  refine call_pure hM hI ((ih _ (by omega)).2.2.1 hr) rfl ?_
  clear hr
  try cbv
  replace h:=letB_inv h
  obtain⟨b42,hz,h⟩:=h
  refine⟨b42,not_eq' hz,?_⟩
  clear hz
  try cbv
  cases b42
  ·replace h:=itF h
   try cbv
   replace h:=letF_inv h
   obtain⟨z43,hz,h⟩:=h
   refine⟨z43,hz,?_⟩
   clear hz
   try cbv
   exact loop_next (m3,z43) [1,2,6,15,16,17] [] 288 ⟨by omega,h⟩ (Nat.lt_succ_of_le (by omega)) (by cbv)
  replace h:=itT h
  try cbv
  refine seq_go ?_
  try cbv
  obtain rfl:=Option.some.inj h
  refine fin_go ?_
  try cbv
  exact⟨[],by trivial⟩
 intro l1 l2 r1 h
 rw[F63]at h
 refine Trip.of tab_ok tab_one fol Tryz.func63 rfl (by kernel_rfl) rfl rfl rfl (fun M hM hI=>?_)
 try cbv
 refine seq_go ?_
 try cbv
 refine seq_go ?_
 try cbv
 replace h:=bO1_inv h
 obtain⟨b3,hr,h⟩:=h
 refine call_go rfl rfl ?_
 try cbv
 refine call_pure hM hI ((ih _ (by omega)).2.2.2.1 hr) rfl ?_
 clear hr
 try cbv
 obtain rfl:=Option.some.inj h
 refine fin_go ?_
 try cbv
 exact⟨[],by trivial⟩
theorem T63 (n:Nat):∀⦃l1 l2 r1⦄,F63 n l1 l2=some r1->
  Trip Tryz.prog inv 63 [.d (.list true 15 l1),.d (.list true 15 l2)] [] (.v (.d (.bool r1))) [] []:=(G141 n).2.2.2.2
def F65 (n:Nat) (s1:BA) (z2:Int) (s3:BA) (l4:LD) (s5:BA) (z6:Int) (s7:BA) (l8:LD):Option (Bool):=
 (if s1=s5 then bO1 (F61 n z2 s3 l4 z6 s7 l8) fun b9=>some b9 else some false)
theorem T65 (n:Nat):∀⦃s1 z2 s3 l4 s5 z6 s7 l8 r1⦄,F65 n s1 z2 s3 l4 s5 z6 s7 l8=some r1->
    Trip Tryz.prog inv 65 [.d (.agg [.str s1,.int .u8 z2,.str s3,.list true 3 l4]),.d (.agg [.str s5,.int .u8 z6,.str s7,.list true 3 l8])] [] (.v (.d (.bool r1))) [] []:=by
 intro s1 z2 s3 l4 s5 z6 s7 l8 r1 h
 unfold F65 at h
 refine Trip.of tab_ok tab_one fol Tryz.func65 rfl (by kernel_rfl) rfl rfl rfl (fun M hM hI=>?_)
 try cbv
 refine seq_go ?_
 try cbv
 refine seq_go ?_
 try cbv
 refine splitS (fun e=>?_) (fun e=>?_)
 ·replace h:=ite_t (bytes_eq.1 e) h
  clear e
  try cbv
  replace h:=bO1_inv h
  obtain⟨b9,hr,h⟩:=h
  refine call_go rfl rfl ?_
  try cbv
  refine call_pure hM hI (T61 _ hr) rfl ?_
  clear hr
  try cbv
  obtain rfl:=Option.some.inj h
  refine fin_go ?_
  try cbv
  exact⟨[],by trivial⟩
 replace h:=ite_f (bytes_ne.1 e) h
 clear e
 try cbv
 obtain rfl:=Option.some.inj h
 refine fin_go ?_
 try cbv
 exact⟨[],by trivial⟩
mutual
def L64_2:Nat->LD->LD->Int->Int->Option (Bool)
 | 0,_,_,_,_=>none
 | n+1,l1,l2,z6,z7=>
  (if z7<z6 then L64_3 n l1 l2 z6 z7 true else L64_3 n l1 l2 z6 z7 false)
def L64_3:Nat->LD->LD->Int->Int->Bool->Option (Bool)
 | 0,_,_,_,_,_=>none
 | n+1,l1,l2,z6,z7,b8=>
  (if b8=true then getF l1 z7 fun x9=>ds_t74 x9 fun s10 z11 s12 l13=>getF l2 z7 fun x14=>ds_t74 x14 fun s15 z16 s17 l18=>bO1 (F65 n s10 z11 s12 l13 s15 z16 s17 l18) fun b19=>letB (!b19) fun b20=>(if b20=true then some false else letF (IntKind.wrap .i64 (z7+1)) fun z21=>L64_2 n l1 l2 z6 z21)else some true)
end
def L64_1:Nat->LD->LD->Bool->Option (Bool)
 | 0,_,_,_=>none
 | n+1,l1,l2,b5=>
  (if b5=true then some false else lenF l1 fun z6=>L64_2 n l1 l2 z6 (0:Int))
def F64 (n:Nat) (l1:LD) (l2:LD):Option (Bool):=
 lenF l1 fun z3=>lenF l2 fun z4=>(if z3=z4 then L64_1 n l1 l2 false else L64_1 n l1 l2 true)
theorem T64 (n:Nat):∀⦃l1 l2 r1⦄,F64 n l1 l2=some r1->
    Trip Tryz.prog inv 64 [.d (.list true 4 l1),.d (.list true 4 l2),.c (.fn 65 [])] [] (.v (.d (.bool r1))) [] []:=by
 intro l1 l2 r1 h
 unfold F64 at h
 refine Trip.of tab_ok tab_one fol Tryz.func64 rfl (by kernel_rfl) rfl rfl rfl (fun M hM hI=>?_)
 try cbv
 refine seq_go ?_
 try cbv
 refine seq_go ?_
 try cbv
 refine seq_joinB 14 [0,1,2,6,14] [] 192 (fun m b=>m<=n/\L64_1 m l1 l2 b=some r1) ?_ ?_
 ·try cbv
  replace h:=lenF_inv M h
  obtain⟨z3,hz,h⟩:=h
  refine⟨z3,hz,?_⟩
  clear hz
  try cbv
  replace h:=lenF_inv M h
  obtain⟨z4,hz,h⟩:=h
  refine⟨z4,hz,?_⟩
  clear hz
  try cbv
  refine splitI (fun e=>?_) (fun e=>?_)
  ·replace h:=ite_t e h
   clear e
   try cbv
   exact join_next (n,false) [0,1,2,6,14] [] 192 ⟨by omega,h⟩ (by cbv)
  replace h:=ite_f e h
  clear e
  try cbv
  exact join_next (n,true) [0,1,2,6,14] [] 192 ⟨by omega,h⟩ (by cbv)
 clear h
 rintro⟨m1,b5⟩ ⟨hm1,h⟩
 try cbv
 replace hm1:m1<=n:=hm1
 obtain _ | m1:=m1
 ·replace h:L64_1 0 l1 l2 b5=some r1:=h
  rw[L64_1]at h
  cases h
 replace h:L64_1 (m1+1) l1 l2 b5=some r1:=h
 rw[L64_1]at h
 try cbv
 cases b5
 rotate_left
 ·replace h:=itT h
  try cbv
  refine seq_go ?_
  try cbv
  obtain rfl:=Option.some.inj h
  refine fin_go ?_
  try cbv
  exact⟨[],by trivial⟩
 replace h:=itF h
 try cbv
 refine seq_go ?_
 try cbv
 refine seq_go ?_
 try cbv
 replace h:=lenF_inv M h
 obtain⟨z6,hz,h⟩:=h
 refine⟨z6,hz,?_⟩
 clear hz
 try cbv
 refine loop_inv (T:=Nat×Int) [1,2,6,15,16,17] [] 288 (fun t=>⟨[sT 1 4 l2,(2,.v (.c (.fn 65 []))),sB 6 false,sT 15 4 l1,sI 16 z6,sI 17 t.2],[],288⟩)
   (fun t=>t.1<=m1/\L64_2 t.1 l1 l2 z6 t.2=some r1) (fun t=>t.1) (m1,(0:Int)) ⟨Nat.le_refl _,h⟩ (by cbv) ?_
 clear h
 rintro⟨m2,z7⟩ ⟨hm2,h⟩
 replace hm2:m2<=m1:=hm2
 obtain _ | m2:=m2
 ·replace h:L64_2 0 l1 l2 z6 z7=some r1:=h
  rw[L64_2]at h
  cases h
 replace h:L64_2 (m2+1) l1 l2 z6 z7=some r1:=h
 rw[L64_2]at h
 try cbv
 refine seq_joinB 18 [1,2,6,15,16,17,18] [] 320 (fun m b=>m<=m2/\L64_3 m l1 l2 z6 z7 b=some r1) ?_ ?_
 ·try cbv
  refine splitL (fun e=>?_) (fun e=>?_)
  ·replace h:=ite_t e h
   clear e
   try cbv
   exact join_next (m2,true) [1,2,6,15,16,17,18] [] 320 ⟨by omega,h⟩ (by cbv)
  replace h:=ite_f (Int.not_lt.2 e) h
  clear e
  try cbv
  exact join_next (m2,false) [1,2,6,15,16,17,18] [] 320 ⟨by omega,h⟩ (by cbv)
 clear h
 rintro⟨m3,b8⟩ ⟨hm3,h⟩
 try cbv
 replace hm3:m3<=m2:=hm3
 obtain _ | m3:=m3
 ·replace h:L64_3 0 l1 l2 z6 z7 b8=some r1:=h
  rw[L64_3]at h
  cases h
 replace h:L64_3 (m3+1) l1 l2 z6 z7 b8=some r1:=h
 rw[L64_3]at h
 try cbv
 refine seq_go ?_
 try cbv
 cases b8
 ·replace h:=itF h
  try cbv
  refine seq_go ?_
  try cbv
  obtain rfl:=Option.some.inj h
  refine fin_go ?_
  try cbv
  exact⟨[],by trivial⟩
 replace h:=itT h
 try cbv
 refine seq_go ?_
 try cbv
 refine seq_go ?_
 try cbv
 replace h:=getF_inv h
 obtain⟨x9,⟨hx0,hx⟩,h⟩:=h
 refine⟨x9,hx0,hx,?_⟩
 clear hx0 hx
 replace h:=ds_t74_inv h
 obtain⟨s10,z11,s12,l13,rfl,h⟩:=h
 try cbv
 refine seq_go ?_
 try cbv
 replace h:=getF_inv h
 obtain⟨x14,⟨hx0,hx⟩,h⟩:=h
 refine⟨x14,hx0,hx,?_⟩
 clear hx0 hx
 replace h:=ds_t74_inv h
 obtain⟨s15,z16,s17,l18,rfl,h⟩:=h
 try cbv
 refine seq_go ?_
 try cbv
 replace h:=bO1_inv h
 obtain⟨b19,hr,h⟩:=h
 refine call_go rfl rfl ?_
 try cbv
 refine call_pure hM hI (T65 _ hr) rfl ?_
 clear hr
 try cbv
 replace h:=letB_inv h
 obtain⟨b20,hz,h⟩:=h
 refine⟨b20,not_eq' hz,?_⟩
 clear hz
 try cbv
 cases b20
 ·replace h:=itF h
  try cbv
  replace h:=letF_inv h
  obtain⟨z21,hz,h⟩:=h
  refine⟨z21,hz,?_⟩
  clear hz
  try cbv
  exact loop_next (m3,z21) [1,2,6,15,16,17] [] 288 ⟨by omega,h⟩ (Nat.lt_succ_of_le (by omega)) (by cbv)
 replace h:=itT h
 try cbv
 refine seq_go ?_
 try cbv
 obtain rfl:=Option.some.inj h
 refine fin_go ?_
 try cbv
 exact⟨[],by trivial⟩
def F60 (n:Nat) (z1:Int) (s2:BA) (l3:LD) (z4:Int) (s5:BA) (l6:LD) (l7:LD) (z8:Int) (z9:Int) (s10:BA) (s11:BA) (s12:BA) (l13:LD) (l14:LD) (z15:Int) (z16:Int) (z17:Int) (s18:BA) (l19:LD) (z20:Int) (s21:BA) (l22:LD) (l23:LD) (z24:Int) (z25:Int) (s26:BA) (s27:BA) (s28:BA) (l29:LD) (l30:LD) (z31:Int) (z32:Int):Option (Bool):=
 (if z1=z17 then (if s2=s18 then bO1 (F61 n z4 s5 l6 z20 s21 l22) fun b33=>(if b33=true then bO1 (F62 n z8 z9 s10 s11 s12 l13 l14 z15 z24 z25 s26 s27 s28 l29 l30 z31) fun b34=>(if b34=true then bO1 (F63 n l7 l23) fun b35=>(if b35=true then bO1 (F64 n l3 l19) fun b36=>some b36 else some false)else some false)else some false)else some false)else some false)
theorem T60 (n:Nat):∀⦃z1 s2 l3 z4 s5 l6 l7 z8 z9 s10 s11 s12 l13 l14 z15 z16 z17 s18 l19 z20 s21 l22 l23 z24 z25 s26 s27 s28 l29 l30 z31 z32 r1⦄,F60 n z1 s2 l3 z4 s5 l6 l7 z8 z9 s10 s11 s12 l13 l14 z15 z16 z17 s18 l19 z20 s21 l22 l23 z24 z25 s26 s27 s28 l29 l30 z31 z32=some r1->
    Trip Tryz.prog inv 60 [.d (.agg [.int .u8 z1,.str s2,.list true 4 l3,.int .u8 z4,.str s5,.list true 3 l6,.list true 15 l7,.int .u8 z8,.int .i64 z9,.str s10,.str s11,.str s12,.list false 1 l13,.list true 8 l14,.int .i64 z15,.int .i64 z16]),.d (.agg [.int .u8 z17,.str s18,.list true 4 l19,.int .u8 z20,.str s21,.list true 3 l22,.list true 15 l23,.int .u8 z24,.int .i64 z25,.str s26,.str s27,.str s28,.list false 1 l29,.list true 8 l30,.int .i64 z31,.int .i64 z32])] [] (.v (.d (.bool r1))) [] []:=by
 intro z1 s2 l3 z4 s5 l6 l7 z8 z9 s10 s11 s12 l13 l14 z15 z16 z17 s18 l19 z20 s21 l22 l23 z24 z25 s26 s27 s28 l29 l30 z31 z32 r1 h
 unfold F60 at h
 refine Trip.of tab_ok tab_one fol Tryz.func60 rfl (by kernel_rfl) rfl rfl rfl (fun M hM hI=>?_)
 try cbv
 refine seq_go ?_
 try cbv
 refine seq_go ?_
 try cbv
 refine splitI (fun e=>?_) (fun e=>?_)
 rotate_left
 ·replace h:=ite_f e h
  clear e
  try cbv
  obtain rfl:=Option.some.inj h
  refine fin_go ?_
  try cbv
  exact⟨[],by trivial⟩
 replace h:=ite_t e h
 clear e
 try cbv
 refine splitS (fun e=>?_) (fun e=>?_)
 rotate_left
 ·replace h:=ite_f (bytes_ne.1 e) h
  clear e
  try cbv
  obtain rfl:=Option.some.inj h
  refine fin_go ?_
  try cbv
  exact⟨[],by trivial⟩
 replace h:=ite_t (bytes_eq.1 e) h
 clear e
 try cbv
 replace h:=bO1_inv h
 obtain⟨b33,hr,h⟩:=h
 refine call_go rfl rfl ?_
 try cbv
 refine call_pure hM hI (T61 _ hr) rfl ?_
 clear hr
 try cbv
 cases b33
 ·replace h:=itF h
  try cbv
  obtain rfl:=Option.some.inj h
  refine fin_go ?_
  try cbv
  exact⟨[],by trivial⟩
 replace h:=itT h
 try cbv
 replace h:=bO1_inv h
 obtain⟨b34,hr,h⟩:=h
 refine call_go rfl rfl ?_
 try cbv
 refine call_pure hM hI (T62 _ hr) rfl ?_
 clear hr
 try cbv
 cases b34
 ·replace h:=itF h
  try cbv
  obtain rfl:=Option.some.inj h
  refine fin_go ?_
  try cbv
  exact⟨[],by trivial⟩
 replace h:=itT h
 try cbv
 replace h:=bO1_inv h
 obtain⟨b35,hr,h⟩:=h
 refine call_go rfl rfl ?_
 try cbv
 refine call_pure hM hI (T63 _ hr) rfl ?_
 clear hr
 try cbv
 cases b35
 ·replace h:=itF h
  try cbv
  obtain rfl:=Option.some.inj h
  refine fin_go ?_
  try cbv
  exact⟨[],by trivial⟩
 replace h:=itT h
 try cbv
 replace h:=bO1_inv h
 obtain⟨b36,hr,h⟩:=h
 refine call_go rfl rfl ?_
 try cbv
 refine call_pure hM hI (T64 _ hr) rfl ?_
 clear hr
 try cbv
 obtain rfl:=Option.some.inj h
 refine fin_go ?_
 try cbv
 exact⟨[],by trivial⟩
mutual
def L59_2:Nat->LD->LD->Int->Int->Option (Bool)
 | 0,_,_,_,_=>none
 | n+1,l1,l2,z6,z7=>
  (if z7<z6 then L59_3 n l1 l2 z6 z7 true else L59_3 n l1 l2 z6 z7 false)
def L59_3:Nat->LD->LD->Int->Int->Bool->Option (Bool)
 | 0,_,_,_,_,_=>none
 | n+1,l1,l2,z6,z7,b8=>
  (if b8=true then getF l1 z7 fun x9=>ds_t45 x9 fun z10 s11 l12 z13 s14 l15 l16 z17 z18 s19 s20 s21 l22 l23 z24 z25=>getF l2 z7 fun x26=>ds_t45 x26 fun z27 s28 l29 z30 s31 l32 l33 z34 z35 s36 s37 s38 l39 l40 z41 z42=>bO1 (F60 n z10 s11 l12 z13 s14 l15 l16 z17 z18 s19 s20 s21 l22 l23 z24 z25 z27 s28 l29 z30 s31 l32 l33 z34 z35 s36 s37 s38 l39 l40 z41 z42) fun b43=>letB (!b43) fun b44=>(if b44=true then some false else letF (IntKind.wrap .i64 (z7+1)) fun z45=>L59_2 n l1 l2 z6 z45)else some true)
end
def L59_1:Nat->LD->LD->Bool->Option (Bool)
 | 0,_,_,_=>none
 | n+1,l1,l2,b5=>
  (if b5=true then some false else lenF l1 fun z6=>L59_2 n l1 l2 z6 (0:Int))
def F59 (n:Nat) (l1:LD) (l2:LD):Option (Bool):=
 lenF l1 fun z3=>lenF l2 fun z4=>(if z3=z4 then L59_1 n l1 l2 false else L59_1 n l1 l2 true)
theorem T59 (n:Nat):∀⦃l1 l2 r1⦄,F59 n l1 l2=some r1->
    Trip Tryz.prog inv 59 [.d (.list true 16 l1),.d (.list true 16 l2),.c (.fn 60 [])] [] (.v (.d (.bool r1))) [] []:=by
 intro l1 l2 r1 h
 unfold F59 at h
 refine Trip.of tab_ok tab_one fol Tryz.func59 rfl (by kernel_rfl) rfl rfl rfl (fun M hM hI=>?_)
 try cbv
 refine seq_go ?_
 try cbv
 refine seq_go ?_
 try cbv
 refine seq_joinB 14 [0,1,2,6,14] [] 192 (fun m b=>m<=n/\L59_1 m l1 l2 b=some r1) ?_ ?_
 ·try cbv
  replace h:=lenF_inv M h
  obtain⟨z3,hz,h⟩:=h
  refine⟨z3,hz,?_⟩
  clear hz
  try cbv
  replace h:=lenF_inv M h
  obtain⟨z4,hz,h⟩:=h
  refine⟨z4,hz,?_⟩
  clear hz
  try cbv
  refine splitI (fun e=>?_) (fun e=>?_)
  ·replace h:=ite_t e h
   clear e
   try cbv
   exact join_next (n,false) [0,1,2,6,14] [] 192 ⟨by omega,h⟩ (by cbv)
  replace h:=ite_f e h
  clear e
  try cbv
  exact join_next (n,true) [0,1,2,6,14] [] 192 ⟨by omega,h⟩ (by cbv)
 clear h
 rintro⟨m1,b5⟩ ⟨hm1,h⟩
 try cbv
 replace hm1:m1<=n:=hm1
 obtain _ | m1:=m1
 ·replace h:L59_1 0 l1 l2 b5=some r1:=h
  rw[L59_1]at h
  cases h
 replace h:L59_1 (m1+1) l1 l2 b5=some r1:=h
 rw[L59_1]at h
 try cbv
 cases b5
 rotate_left
 ·replace h:=itT h
  try cbv
  refine seq_go ?_
  try cbv
  obtain rfl:=Option.some.inj h
  refine fin_go ?_
  try cbv
  exact⟨[],by trivial⟩
 replace h:=itF h
 try cbv
 refine seq_go ?_
 try cbv
 refine seq_go ?_
 try cbv
 replace h:=lenF_inv M h
 obtain⟨z6,hz,h⟩:=h
 refine⟨z6,hz,?_⟩
 clear hz
 try cbv
 refine loop_inv (T:=Nat×Int) [1,2,6,15,16,17] [] 288 (fun t=>⟨[sT 1 16 l2,(2,.v (.c (.fn 60 []))),sB 6 false,sT 15 16 l1,sI 16 z6,sI 17 t.2],[],288⟩)
   (fun t=>t.1<=m1/\L59_2 t.1 l1 l2 z6 t.2=some r1) (fun t=>t.1) (m1,(0:Int)) ⟨Nat.le_refl _,h⟩ (by cbv) ?_
 clear h
 rintro⟨m2,z7⟩ ⟨hm2,h⟩
 replace hm2:m2<=m1:=hm2
 obtain _ | m2:=m2
 ·replace h:L59_2 0 l1 l2 z6 z7=some r1:=h
  rw[L59_2]at h
  cases h
 replace h:L59_2 (m2+1) l1 l2 z6 z7=some r1:=h
 rw[L59_2]at h
 try cbv
 refine seq_joinB 18 [1,2,6,15,16,17,18] [] 320 (fun m b=>m<=m2/\L59_3 m l1 l2 z6 z7 b=some r1) ?_ ?_
 ·try cbv
  refine splitL (fun e=>?_) (fun e=>?_)
  ·replace h:=ite_t e h
   clear e
   try cbv
   exact join_next (m2,true) [1,2,6,15,16,17,18] [] 320 ⟨by omega,h⟩ (by cbv)
  replace h:=ite_f (Int.not_lt.2 e) h
  clear e
  try cbv
  exact join_next (m2,false) [1,2,6,15,16,17,18] [] 320 ⟨by omega,h⟩ (by cbv)
 clear h
 rintro⟨m3,b8⟩ ⟨hm3,h⟩
 try cbv
 replace hm3:m3<=m2:=hm3
 obtain _ | m3:=m3
 ·replace h:L59_3 0 l1 l2 z6 z7 b8=some r1:=h
  rw[L59_3]at h
  cases h
 replace h:L59_3 (m3+1) l1 l2 z6 z7 b8=some r1:=h
 rw[L59_3]at h
 try cbv
 refine seq_go ?_
 try cbv
 cases b8
 ·replace h:=itF h
  try cbv
  refine seq_go ?_
  try cbv
  obtain rfl:=Option.some.inj h
  refine fin_go ?_
  try cbv
  exact⟨[],by trivial⟩
 replace h:=itT h
 try cbv
 refine seq_go ?_
 try cbv
 refine seq_go ?_
 try cbv
 replace h:=getF_inv h
 obtain⟨x9,⟨hx0,hx⟩,h⟩:=h
 refine⟨x9,hx0,hx,?_⟩
 clear hx0 hx
 replace h:=ds_t45_inv h
 obtain⟨z10,s11,l12,z13,s14,l15,l16,z17,z18,s19,s20,s21,l22,l23,z24,z25,rfl,h⟩:=h
 try cbv
 refine seq_go ?_
 try cbv
 replace h:=getF_inv h
 obtain⟨x26,⟨hx0,hx⟩,h⟩:=h
 refine⟨x26,hx0,hx,?_⟩
 clear hx0 hx
 replace h:=ds_t45_inv h
 obtain⟨z27,s28,l29,z30,s31,l32,l33,z34,z35,s36,s37,s38,l39,l40,z41,z42,rfl,h⟩:=h
 try cbv
 refine seq_go ?_
 try cbv
 replace h:=bO1_inv h
 obtain⟨b43,hr,h⟩:=h
 refine call_go rfl rfl ?_
 try cbv
 refine call_pure hM hI (T60 _ hr) rfl ?_
 clear hr
 try cbv
 replace h:=letB_inv h
 obtain⟨b44,hz,h⟩:=h
 refine⟨b44,not_eq' hz,?_⟩
 clear hz
 try cbv
 cases b44
 ·replace h:=itF h
  try cbv
  replace h:=letF_inv h
  obtain⟨z45,hz,h⟩:=h
  refine⟨z45,hz,?_⟩
  clear hz
  try cbv
  exact loop_next (m3,z45) [1,2,6,15,16,17] [] 288 ⟨by omega,h⟩ (Nat.lt_succ_of_le (by omega)) (by cbv)
 replace h:=itT h
 try cbv
 refine seq_go ?_
 try cbv
 obtain rfl:=Option.some.inj h
 refine fin_go ?_
 try cbv
 exact⟨[],by trivial⟩
def F25 (n:Nat) (l1:LD) (l2:LD):Option (Bool):=
 bO1 (F59 n l1 l2) fun b3=>some b3
theorem T25 (n:Nat):∀⦃l1 l2 r1⦄,F25 n l1 l2=some r1->
    Trip Tryz.prog inv 25 [.d (.agg [.list true 16 l1]),.d (.agg [.list true 16 l2])] [] (.v (.d (.bool r1))) [] []:=by
 intro l1 l2 r1 h
 unfold F25 at h
 refine Trip.of tab_ok tab_one fol Tryz.func25 rfl (by kernel_rfl) rfl rfl rfl (fun M hM hI=>?_)
 try cbv
 refine seq_go ?_
 try cbv
 refine seq_go ?_
 try cbv
 replace h:=bO1_inv h
 obtain⟨b3,hr,h⟩:=h
 refine call_go rfl rfl ?_
 try cbv
 refine call_pure hM hI (T59 _ hr) rfl ?_
 clear hr
 try cbv
 obtain rfl:=Option.some.inj h
 refine fin_go ?_
 try cbv
 exact⟨[],by trivial⟩
def L17_1:Nat->LD->LD->LD->Bool->Option (Bool)
 | 0,_,_,_,_=>none
 | n+1,l1,l20,l21,b23=>
  (if b23=true then some false else bO1 (F10 n ([]:LD)) fun b24=>(if b24=true then bO1 (F10 n l1) fun b25=>(if b25=true then bO1 (F12 n l1) fun z26=>(if z26=(3:Int)then bO1 (F14 n l1) fun z27=>(if z27=(2:Int)then bO1 (F12 n ([]:LD)) fun z28=>(if z28=(1:Int)then bO1 (F21 n (1:Int) ByteArray.empty ([]:LD)) fun b29=>(if b29=true then bO1 (F21 n (5:Int) ByteArray.empty ([]:LD)) fun b30=>letB (!b30) fun b31=>(if b31=true then bO1 (F21 n (1:Int) k_T ([]:LD)) fun b32=>letB (!b32) fun b33=>(if b33=true then bO1 (F20 n (1:Int) (-1:Int) ByteArray.empty ByteArray.empty ByteArray.empty ([]:LD) ([]:LD) (0:Int)) fun b34=>letB (!b34) fun b35=>(if b35=true then bO1 (F20 n (5:Int) (0:Int) ByteArray.empty ByteArray.empty k_x ([]:LD) ([]:LD) (0:Int)) fun b36=>letB (!b36) fun b37=>(if b37=true then bO1 (F20 n (18:Int) (0:Int) k_f ByteArray.empty ByteArray.empty ([]:LD) ([.agg [.int .u8 5,.int .i64 0,.str ByteArray.empty,.str ByteArray.empty,.str k_x,.list false 1 [],.list true 8 [],.int .i64 0]]) (0:Int)) fun b38=>(if b38=true then bO1 (F52 n k_x ([.str k_a,.str k__])) fun b39=>(if b39=true then bO1 (F52 n k_X ([]:LD)) fun b40=>letB (!b40) fun b41=>(if b41=true then bO1 (F25 n l1 l20) fun b42=>(if b42=true then getF l21 0 fun x43=>ds_t45 x43 fun z44 s45 l46 z47 s48 l49 l50 z51 z52 s53 s54 s55 l56 l57 z58 z59=>(if z59=(0:Int)then some true else some false)else some false)else some false)else some false)else some false)else some false)else some false)else some false)else some false)else some false)else some false)else some false)else some false)else some false)else some false))
def F17 (n:Nat):Option (Bool):=
 bO1 (F22 n) fun l1=>bO1 (F22 n) fun l2=>needF (0<=(0:Int)/\(0:Int).toNat<l2.length) (getN l2 ((0:Int).toNat) fun x3=>ds_t45 x3 fun z4 s5 l6 z7 s8 l9 l10 z11 z12 s13 s14 s15 l16 l17 z18 z19=>setF l2 ((0:Int).toNat) (.agg [.int .u8 z4,.str s5,.list true 4 l6,.int .u8 z7,.str s8,.list true 3 l9,.list true 15 l10,.int .u8 z11,.int .i64 z12,.str s13,.str s14,.str s15,.list false 1 l16,.list true 8 l17,.int .i64 z18,.int .i64 7]) fun l20=>bO1 (F24 n l20) fun l21=>lenF l21 fun z22=>(if z22=(1:Int)then L17_1 n l1 l20 l21 false else L17_1 n l1 l20 l21 true))
theorem T17 (n:Nat):∀⦃r1⦄,F17 n=some r1->
    Trip Tryz.prog inv 17 [] [] (.v (.d (.bool r1))) [] []:=by
 intro r1 h
 unfold F17 at h
 refine Trip.of tab_ok tab_one fol Tryz.func17 rfl (by kernel_rfl) rfl rfl rfl (fun M hM hI=>?_)
 try cbv
 refine seq_go ?_
 try cbv
 refine seq_go ?_
 try cbv
 replace h:=bO1_inv h
 obtain⟨l1,hr,h⟩:=h
 refine call_go rfl rfl ?_
 try cbv
 refine call_with hM hI [] (T22 _ hr) rfl (by simp) trivial trivial (by simp) ?_
 clear hr
 try cbv
 refine seq_go ?_
 try cbv
 replace h:=bO1_inv h
 obtain⟨l2,hr,h⟩:=h
 refine call_go rfl rfl ?_
 try cbv
 refine call_with hM hI [] (T22 _ hr) rfl (by simp) trivial trivial (by simp) ?_
 clear hr
 try cbv
 refine seq_go ?_
 try cbv
 replace h:=needF_inv h
 obtain⟨hn,h⟩:=h
 refine⟨(M.lock_iff _).2 hn,?_⟩
 clear hn
 try cbv
 refine⟨[],?_⟩
 try cbv
 replace h:=getN_inv h
 obtain⟨x3,hx,h⟩:=h
 replace h:=ds_t45_inv h
 obtain⟨z4,s5,l6,z7,s8,l9,l10,z11,z12,s13,s14,s15,l16,l17,z18,z19,rfl,h⟩:=h
 refine⟨_,hx,?_⟩
 clear hx
 try cbv
 refine seq_go ?_
 try cbv
 refine seq_go ?_
 try cbv
 replace h:=setF_inv h
 obtain⟨l20,hl20,h⟩:=h
 replace h:=bO1_inv h
 obtain⟨l21,hr,h⟩:=h
 refine call_gs [.close (.loc 128),.freeze (.loc 128)] rfl rfl ?_
 try cbv
 refine⟨l20,hl20,?_⟩
 clear hl20
 try cbv
 first | refine⟨by first | rfl | trivial,?_⟩ | skip
 refine callfv_with hM hI [] rfl rfl (T24 _ hr) rfl (by simp) trivial trivial (by simp) ?_
 clear hr
 try cbv
 refine seq_go ?_
 try cbv
 refine seq_joinB 18 [0,1,2,3,4,18] [.loc 64,.loc 32,.loc 160,.loc 448,.loc 576] 768 (fun m b=>m<=n/\L17_1 m l1 l20 l21 b=some r1) ?_ ?_
 ·try cbv
  replace h:=lenF_inv M h
  obtain⟨z22,hz,h⟩:=h
  refine⟨z22,hz,?_⟩
  clear hz
  try cbv
  refine splitI (fun e=>?_) (fun e=>?_)
  ·replace h:=ite_t e h
   clear e
   try cbv
   exact join_next (n,false) [0,1,2,3,4,18] [.loc 64,.loc 32,.loc 160,.loc 448,.loc 576] 768 ⟨by omega,h⟩ (by cbv)
  replace h:=ite_f e h
  clear e
  try cbv
  exact join_next (n,true) [0,1,2,3,4,18] [.loc 64,.loc 32,.loc 160,.loc 448,.loc 576] 768 ⟨by omega,h⟩ (by cbv)
 clear h
 rintro⟨m1,b23⟩ ⟨hm1,h⟩
 try cbv
 replace hm1:m1<=n:=hm1
 obtain _ | m1:=m1
 ·replace h:L17_1 0 l1 l20 l21 b23=some r1:=h
  rw[L17_1]at h
  cases h
 replace h:L17_1 (m1+1) l1 l20 l21 b23=some r1:=h
 rw[L17_1]at h
 try cbv
 cases b23
 rotate_left
 ·replace h:=itT h
  try cbv
  refine seq_go ?_
  try cbv
  obtain rfl:=Option.some.inj h
  refine fin_go ?_
  try cbv
  exact⟨[],by trivial⟩
 replace h:=itF h
 try cbv
 refine seq_go ?_
 try cbv
 replace h:=bO1_inv h
 obtain⟨b24,hr,h⟩:=h
 refine call_go rfl rfl ?_
 try cbv
 refine call_pure hM hI (T10 _ hr) rfl ?_
 clear hr
 try cbv
 cases b24
 ·replace h:=itF h
  try cbv
  obtain rfl:=Option.some.inj h
  refine fin_go ?_
  try cbv
  exact⟨[],by trivial⟩
 replace h:=itT h
 try cbv
 replace h:=bO1_inv h
 obtain⟨b25,hr,h⟩:=h
 refine call_gs [.freeze (.loc 32)] rfl rfl ?_
 try cbv
 first | refine⟨by first | rfl | trivial,?_⟩ | skip
 refine callfv_with hM hI [] rfl rfl (T10 _ hr) rfl (by simp) trivial trivial (by simp) ?_
 clear hr
 try cbv
 cases b25
 ·replace h:=itF h
  try cbv
  obtain rfl:=Option.some.inj h
  refine fin_go ?_
  try cbv
  exact⟨[],by trivial⟩
 replace h:=itT h
 try cbv
 replace h:=bO1_inv h
 obtain⟨z26,hr,h⟩:=h
 refine call_go rfl rfl ?_
 try cbv
 refine call_pure hM hI (T12 _ hr) rfl ?_
 clear hr
 try cbv
 refine splitI (fun e=>?_) (fun e=>?_)
 rotate_left
 ·replace h:=ite_f e h
  clear e
  try cbv
  obtain rfl:=Option.some.inj h
  refine fin_go ?_
  try cbv
  exact⟨[],by trivial⟩
 replace h:=ite_t e h
 clear e
 try cbv
 replace h:=bO1_inv h
 obtain⟨z27,hr,h⟩:=h
 refine call_go rfl rfl ?_
 try cbv
 refine call_pure hM hI (T14 _ hr) rfl ?_
 clear hr
 try cbv
 refine splitI (fun e=>?_) (fun e=>?_)
 rotate_left
 ·replace h:=ite_f e h
  clear e
  try cbv
  obtain rfl:=Option.some.inj h
  refine fin_go ?_
  try cbv
  exact⟨[],by trivial⟩
 replace h:=ite_t e h
 clear e
 try cbv
 replace h:=bO1_inv h
 obtain⟨z28,hr,h⟩:=h
 refine call_go rfl rfl ?_
 try cbv
 refine call_pure hM hI (T12 _ hr) rfl ?_
 clear hr
 try cbv
 refine splitI (fun e=>?_) (fun e=>?_)
 rotate_left
 ·replace h:=ite_f e h
  clear e
  try cbv
  obtain rfl:=Option.some.inj h
  refine fin_go ?_
  try cbv
  exact⟨[],by trivial⟩
 replace h:=ite_t e h
 clear e
 try cbv
 replace h:=bO1_inv h
 obtain⟨b29,hr,h⟩:=h
 refine call_go rfl rfl ?_
 try cbv
 refine call_pure hM hI (T21 _ hr) rfl ?_
 clear hr
 try cbv
 cases b29
 ·replace h:=itF h
  try cbv
  obtain rfl:=Option.some.inj h
  refine fin_go ?_
  try cbv
  exact⟨[],by trivial⟩
 replace h:=itT h
 try cbv
 replace h:=bO1_inv h
 obtain⟨b30,hr,h⟩:=h
 refine call_go rfl rfl ?_
 try cbv
 refine call_pure hM hI (T21 _ hr) rfl ?_
 clear hr
 try cbv
 replace h:=letB_inv h
 obtain⟨b31,hz,h⟩:=h
 refine⟨b31,not_eq' hz,?_⟩
 clear hz
 try cbv
 cases b31
 ·replace h:=itF h
  try cbv
  obtain rfl:=Option.some.inj h
  refine fin_go ?_
  try cbv
  exact⟨[],by trivial⟩
 replace h:=itT h
 try cbv
 replace h:=bO1_inv h
 obtain⟨b32,hr,h⟩:=h
 refine call_go rfl rfl ?_
 try cbv
 refine call_pure hM hI (T21 _ hr) rfl ?_
 clear hr
 try cbv
 replace h:=letB_inv h
 obtain⟨b33,hz,h⟩:=h
 refine⟨b33,not_eq' hz,?_⟩
 clear hz
 try cbv
 cases b33
 ·replace h:=itF h
  try cbv
  obtain rfl:=Option.some.inj h
  refine fin_go ?_
  try cbv
  exact⟨[],by trivial⟩
 replace h:=itT h
 try cbv
 replace h:=bO1_inv h
 obtain⟨b34,hr,h⟩:=h
 refine call_go rfl rfl ?_
 try cbv
 refine call_pure hM hI (T20 _ hr) rfl ?_
 clear hr
 try cbv
 replace h:=letB_inv h
 obtain⟨b35,hz,h⟩:=h
 refine⟨b35,not_eq' hz,?_⟩
 clear hz
 try cbv
 cases b35
 ·replace h:=itF h
  try cbv
  obtain rfl:=Option.some.inj h
  refine fin_go ?_
  try cbv
  exact⟨[],by trivial⟩
 replace h:=itT h
 try cbv
 replace h:=bO1_inv h
 obtain⟨b36,hr,h⟩:=h
 refine call_go rfl rfl ?_
 try cbv
 refine call_pure hM hI (T20 _ hr) rfl ?_
 clear hr
 try cbv
 replace h:=letB_inv h
 obtain⟨b37,hz,h⟩:=h
 refine⟨b37,not_eq' hz,?_⟩
 clear hz
 try cbv
 cases b37
 ·replace h:=itF h
  try cbv
  obtain rfl:=Option.some.inj h
  refine fin_go ?_
  try cbv
  exact⟨[],by trivial⟩
 replace h:=itT h
 try cbv
 refine⟨false,?_⟩
 try cbv
 refine⟨true,?_⟩
 try cbv
 replace h:=bO1_inv h
 obtain⟨b38,hr,h⟩:=h
 refine call_go rfl rfl ?_
 try cbv
 refine call_pure hM hI (T20 _ hr) rfl ?_
 clear hr
 try cbv
 cases b38
 ·replace h:=itF h
  try cbv
  obtain rfl:=Option.some.inj h
  refine fin_go ?_
  try cbv
  exact⟨[],by trivial⟩
 replace h:=itT h
 try cbv
 refine⟨false,?_⟩
 try cbv
 refine⟨true,?_⟩
 try cbv
 replace h:=bO1_inv h
 obtain⟨b39,hr,h⟩:=h
 refine call_go rfl rfl ?_
 try cbv
 refine call_pure hM hI (T52 _ hr) rfl ?_
 clear hr
 try cbv
 cases b39
 ·replace h:=itF h
  try cbv
  obtain rfl:=Option.some.inj h
  refine fin_go ?_
  try cbv
  exact⟨[],by trivial⟩
 replace h:=itT h
 try cbv
 replace h:=bO1_inv h
 obtain⟨b40,hr,h⟩:=h
 refine call_go rfl rfl ?_
 try cbv
 refine call_pure hM hI (T52 _ hr) rfl ?_
 clear hr
 try cbv
 replace h:=letB_inv h
 obtain⟨b41,hz,h⟩:=h
 refine⟨b41,not_eq' hz,?_⟩
 clear hz
 try cbv
 cases b41
 ·replace h:=itF h
  try cbv
  obtain rfl:=Option.some.inj h
  refine fin_go ?_
  try cbv
  exact⟨[],by trivial⟩
 replace h:=itT h
 try cbv
 replace h:=bO1_inv h
 obtain⟨b42,hr,h⟩:=h
 refine call_go rfl rfl ?_
 try cbv
 refine call_pure hM hI (T25 _ hr) rfl ?_
 clear hr
 try cbv
 cases b42
 ·replace h:=itF h
  try cbv
  obtain rfl:=Option.some.inj h
  refine fin_go ?_
  try cbv
  exact⟨[],by trivial⟩
 replace h:=itT h
 try cbv
 replace h:=getF_inv h
 obtain⟨x43,⟨hx0,hx⟩,h⟩:=h
 refine⟨x43,hx0,hx,?_⟩
 clear hx0 hx
 replace h:=ds_t45_inv h
 obtain⟨z44,s45,l46,z47,s48,l49,l50,z51,z52,s53,s54,s55,l56,l57,z58,z59,rfl,h⟩:=h
 try cbv
 refine splitI (fun e=>?_) (fun e=>?_)
 ·replace h:=ite_t e h
  clear e
  try cbv
  obtain rfl:=Option.some.inj h
  refine fin_go ?_
  try cbv
  exact⟨[],by trivial⟩
 replace h:=ite_f e h
 clear e
 try cbv
 obtain rfl:=Option.some.inj h
 refine fin_go ?_
 try cbv
 exact⟨[],by trivial⟩
end Go.Proofs.YtjmofeakajdbiaaGreatDoor
end
namespace Go.AM
open Go
def Ev {α:Type}(A:Nat→Option α) (r:α):Prop:=∃N,∀n,N≤n→A n=some r
section
variable {α β γ:Type}
theorem Ev.ret {r:α}:Ev (fun _=>some r) r:=⟨0,fun _ _=>rfl⟩
theorem Ev.of {A:Nat→Option α}{r:α}(h:∀n,A n=some r):Ev A r:=⟨0,fun n _=>h n⟩
theorem Ev.succ {A:Nat→Option α}{r:α}(h:Ev (fun n=>A (n+1)) r):Ev A r:=by
 obtain⟨N,h⟩:=h
 refine⟨N+1,fun n hn=>?_⟩
 obtain⟨m,rfl⟩:∃m,n=m+1:=⟨n - 1,by omega⟩
 exact h m (by omega)
theorem Ev.congr {A B:Nat→Option α}{r:α}(h:Ev A r) (e:∀n,A n=B n):Ev B r:=by
 obtain⟨N,h⟩:=h
 exact⟨N,fun n hn=>(e n)▸h n hn⟩
theorem Ev.bO0 {A:Nat→Option Unit}{k:Nat→Option γ}{r:γ}(ha:Ev A ()) (hk:Ev k r):Ev (fun n=>bO0 (A n) (k n)) r:=by
 obtain⟨N,ha⟩:=ha
 obtain⟨M,hk⟩:=hk
 refine⟨N+M,fun n hn=>?_⟩
 show Go.AM.bO0 (A n) (k n)=some r
 rw[ha n (by omega)]
 exact hk n (by omega)
theorem Ev.bO1 {A:Nat→Option α}{a:α}{k:Nat→α→Option γ}{r:γ}(ha:Ev A a) (hk:Ev (fun n=>k n a) r):Ev (fun n=>bO1 (A n) (k n)) r:=by
 obtain⟨N,ha⟩:=ha
 obtain⟨M,hk⟩:=hk
 refine⟨N+M,fun n hn=>?_⟩
 show Go.AM.bO1 (A n) (k n)=some r
 rw[ha n (by omega)]
 exact hk n (by omega)
theorem Ev.bO2 {A:Nat→Option (α×β)}{a:α}{b:β}{k:Nat→α→β→Option γ}{r:γ}(ha:Ev A (a,b)) (hk:Ev (fun n=>k n a b) r):Ev (fun n=>bO2 (A n) (k n)) r:=by
 obtain⟨N,ha⟩:=ha
 obtain⟨M,hk⟩:=hk
 refine⟨N+M,fun n hn=>?_⟩
 show Go.AM.bO2 (A n) (k n)=some r
 rw[ha n (by omega)]
 exact hk n (by omega)
theorem Ev.run {A:Nat→Option α}{r:α}(h:Ev A r):∃n,A n=some r:=let ⟨N,h⟩:=h;⟨N,h N (Nat.le_refl _)⟩
theorem Ev.uniq {A:Nat→Option α}{r s:α}(h:Ev A r) (h':Ev A s):r=s:=by
 obtain⟨N,h⟩:=h
 obtain⟨M,h'⟩:=h'
 have a:=h (N+M) (by omega)
 rw[h' (N+M) (by omega)]at a
 exact (Option.some.inj a).symm
def Total (A:Nat→Option α):Prop:=∃r,Ev A r
theorem down {P:Nat→Prop}(N:Nat) (h0:P N) (h:∀i,i<N→P (i+1)→P i):∀i,i≤N→P i:=by
 intro i hi
 obtain⟨d,hd⟩:∃d,d=N - i:=⟨_,rfl⟩
 induction d generalizing i with
 | zero=>
      obtain rfl:i=N:=by omega
      exact h0
 | succ d ih=>exact h i (by omega) (ih (i+1) (by omega) (by omega))
end
section
variable {γ:Type}
theorem getF_nat {L:List D}{i:Nat}{x:D}{k:D→Option γ}(hx:L[i]?=some x):getF L (i:Int) k=k x:=getF_some (by omega) (by simpa using hx)
theorem wrap_i64' {x:Int}(h: -9223372036854775808≤x∧x≤9223372036854775807):IntKind.i64.wrap x=x:=IntWalk.i64_in x h
theorem wrap_succ {i N:Nat}(h:i<N) (hN:N≤maxLen):IntKind.i64.wrap ((i:Int)+1)=((i+1:Nat):Int):=by
 have:maxLen=9223372036854775807:=rfl
 rw[wrap_i64' (by omega)];omega
end
def RowS (ti:Types) (e:TypeId) (x:D):Prop:=Shape ti e x.cells∧∀y,ti e=some y→x.isAgg=rowD y.desc
def ListS (ti:Types) (e:TypeId) (L:List D):Prop:=L.length≤maxLen∧∀x∈L,RowS ti e x
theorem ListS.get {ti:Types}{e:TypeId}{L:List D}{i:Nat}(h:ListS ti e L) (hi:i<L.length):∃x,L[i]?=some x∧x∈L∧RowS ti e x:=
 ⟨L[i],List.getElem?_eq_getElem hi,List.getElem_mem hi,h.2 _ (List.getElem_mem hi)⟩
def flatFs (ti:Types) (rec:TypeId→Option (List TypeId)):Nat→List Field→Option (List TypeId)
 | _,[]=>some []
 | off,f::r=>match Nat.beq f.offset off with
  | false=>none
  | true=>match ti f.type with
   | none=>none
   | some y=>match rec f.type with
    | none=>none
    | some l=>match Nat.beq l.length y.size with
     | false=>none
     | true=>match flatFs ti rec (off+y.size) r with
      | none=>none
      | some l'=>some (l++l')
def flatT (ti:Types):Nat→TypeId→Option (List TypeId)
 | 0,_=>none
 | n+1,t=>match ti t with
  | none=>none
  | some x=>match x.desc with
   | .struct fs=>match flatFs ti (flatT ti n) 0 fs.toList with
    | none=>none
    | some l=>match Nat.beq l.length x.size with
     | true=>some l
     | false=>none
   | .array ..=>none
   | _=>some [t]
theorem Shape.one {ti:Types}{t:TypeId}{x:TI}{ds:List D}(h:Shape ti t ds) (hx:ti t=some x) (hd:∀fs,x.desc≠ .struct fs):∃c,ds=[c]:=by
 cases h with
 | struct ds h1 h2=>rw[hx]at h1;obtain rfl:=Option.some.inj h1;exact absurd h2 (hd _)
 | _=>exact⟨_,rfl⟩
theorem flatFs_ok {ti:Types}{rec:TypeId→Option (List TypeId)}{ds:List D}
  (hrec:∀t ls cs,rec t=some ls→Shape ti t cs→cs.length=ls.length∧∀(j:Nat) c tl,cs[j]?=some c→ls[j]?=some tl→Shape ti tl [c]):
  ∀(fs:List Field) (off:Nat) (ls:List TypeId),flatFs ti rec off fs=some ls→(∀f∈fs,∀y,ti f.type=some y→Shape ti f.type ((ds.drop f.offset).take y.size))→
   ∀(j:Nat) c tl,ds[off+j]?=some c→ls[j]?=some tl→Shape ti tl [c]
 | [],off,ls,h,_,j,c,tl,_,hl=>by
  cases h;simp at hl
 | f::fs,off,ls,h,hs,j,c,tl,hc,hl=>by
  unfold flatFs at h
  split at h
  ·cases h
  ·rename_i ho
   have ho:=Nat.eq_of_beq_eq_true ho
   split at h
   ·cases h
   ·rename_i y hy
    split at h
    ·cases h
    ·rename_i l hr
     split at h
     ·cases h
     ·rename_i hb
      have hb:=Nat.eq_of_beq_eq_true hb
      split at h
      ·cases h
      ·rename_i l' hl'
       cases h
       obtain⟨h1,h2⟩:=hrec _ _ _ hr (hs f (by simp) y hy)
       by_cases hj:j<l.length
       ·rw[List.getElem?_append_left hj]at hl
        refine h2 j c tl ?_ hl
        rw[List.getElem?_take,if_pos (by omega),List.getElem?_drop,ho]
        exact hc
       ·rw[List.getElem?_append_right (by omega)]at hl
        refine flatFs_ok hrec fs _ l' hl' (fun f' hf'=>hs f' (List.mem_cons_of_mem _ hf')) (j - l.length) c tl ?_ hl
        rw[←hc];congr 1;omega
theorem Shape.flat {ti:Types}:
  ∀(n:Nat) (t:TypeId) (ls:List TypeId) (ds:List D),flatT ti n t=some ls→Shape ti t ds→ds.length=ls.length∧∀(j:Nat) c tl,ds[j]?=some c→ls[j]?=some tl→Shape ti tl [c]
 | 0,t,ls,ds,h,_=>by cases h
 | n+1,t,ls,ds,h,hs=>by
  unfold flatT at h
  split at h
  ·cases h
  ·rename_i x hx
   have single:(∀fs,x.desc≠ .struct fs)→ls=[t]→ds.length=ls.length∧∀(j:Nat) c tl,ds[j]?=some c→ls[j]?=some tl→Shape ti tl [c]:=by
    rintro hd rfl
    obtain⟨c,rfl⟩:=hs.one hx hd
    refine⟨rfl,fun j c' tl h1 h2=>?_⟩
    match j with
    | 0=>simp at h1 h2;subst h1;subst h2;exact hs
    | j+1=>simp at h1
   split at h
   ·rename_i fs hd
    obtain⟨h1,_,h3⟩:=hs.struct_inv hx hd
    split at h
    ·cases h
    ·rename_i l hl
     split at h
     ·rename_i hb
      cases h
      refine⟨h1.trans (Nat.eq_of_beq_eq_true hb).symm,fun j c tl h4 h5=>?_⟩
      exact flatFs_ok (fun t ls cs h6 h7=>Shape.flat n t ls cs h6 h7) fs.toList 0 ls hl h3 j c tl (by simpa using h4) h5
     ·cases h
   ·cases h
   ·rename_i h1 h2
    cases h
    exact single h1 rfl
theorem RowS.agg {ti:Types}{e:TypeId}{x:D}{y:TI}(h:RowS ti e x) (hy:ti e=some y) (hr:rowD y.desc=true):∃cs,x= .agg cs∧Shape ti e cs:=by
 have h1:=(h.2 y hy).trans hr
 cases x<;>simp[D.isAgg]at h1
 exact⟨_,rfl,h.1⟩
theorem RowS.flat1 {ti:Types}{e:TypeId}{x:D}{y:TI}(h:RowS ti e x) (hy:ti e=some y) (hr:rowD y.desc=false):Shape ti e [x]:=by
 have h1:=(h.2 y hy).trans hr
 have h0:=h.1
 cases x<;>simp_all [D.isAgg,D.cells]
theorem Shape.listS {ti:Types}{t e:TypeId}{x y:TI}{c:D}(h:Shape ti t [c]) (hx:ti t=some x) (hd:x.desc= .slice e) (hy:ti e=some y):
  ∃L,c= .list (rowD y.desc) y.size L∧ListS ti e L:=by
 obtain⟨L,e1,h1,h2,h3⟩:=h.slice_inv hx hd hy
 refine⟨L,(List.cons.inj e1).1,h1,fun r hr=>⟨h3 r hr,fun y' hy'=>?_⟩⟩
 rw[hy]at hy'
 obtain rfl:=Option.some.inj hy'
 exact (h2 r hr).1
theorem Shape.intS {ti:Types}{t:TypeId}{x:TI}{k:IntKind}{c:D}(h:Shape ti t [c]) (hx:ti t=some x) (hd:x.desc= .int k):∃n,c= .int k n∧(Lit.int k n).wf=true:=by
 obtain⟨n,e,hw⟩:=h.int_inv hx hd
 exact⟨n,(List.cons.inj e).1,hw⟩
theorem Shape.strS {ti:Types}{t:TypeId}{x:TI}{c:D}(h:Shape ti t [c]) (hx:ti t=some x) (hd:x.desc= .string):∃s,c= .str s∧s.size≤maxLen:=by
 obtain⟨n,e,hw⟩:=h.str_inv hx hd
 exact⟨n,(List.cons.inj e).1,hw⟩
theorem size_row {ag:Bool}{sz:Nat}{L M:List D}{cs:List D}(h:D.agg cs∈L) (h2:D.list ag sz M∈cs):SizeOf.sizeOf M<SizeOf.sizeOf L:=by
 have h1:=List.sizeOf_lt_of_mem h
 have h3:=List.sizeOf_lt_of_mem h2
 simp at h1 h3
 omega
theorem list_ind {P:List D→Prop}(H:∀L,(∀M,SizeOf.sizeOf M<SizeOf.sizeOf L→P M)→P L) (L:List D):P L:=by
 obtain⟨m,hm⟩:∃m,SizeOf.sizeOf L<m:=⟨_,Nat.lt_succ_self _⟩
 induction m generalizing L with
 | zero=>omega
 | succ m ih=>exact H L (fun M hM=>ih M (by omega))
end Go.AM
set_option linter.unusedVariables false
noncomputable section
namespace Go.Proofs.YtjmofeakajdbiaaGreatDoor
open Go Go.AM
mutual
def L146_1:Nat->BA->Int->Option (Bool)
 | 0,_,_=>none
 | n+1,s1,z2=>
  (if z2<(47:Int)then L146_2 n s1 z2 true else L146_2 n s1 z2 false)
def L146_2:Nat->BA->Int->Bool->Option (Bool)
 | 0,_,_,_=>none
 | n+1,s1,z2,b3=>
  (if b3=true then getF ([.str k_let,.str k_if,.str k_else,.str k_while,.str k_match,.str k_scope,.str k_spawn,.str k_lock,.str k_as,.str k_chan,.str k_drop,.str k_fn,.str k_struct,.str k_enum,.str k_true,.str k_false,.str k_and,.str k_or,.str k_not,.str k_int,.str k_bool,.str k_unit,.str k_mut,.str k_box,.str k_unbox,.str k_cell,.str k_get,.str k_set,.str k_rc,.str k_arc,.str k_clone,.str k_mutex,.str k_open,.str k_atomic,.str k_load,.str k_store,.str k_fetch,.str k_send,.str k_recv,.str k_Box,.str k_Cell,.str k_Rc,.str k_Arc,.str k_Mutex,.str k_Atomic,.str k_Sender,.str k_Receiver]) z2 fun x4=>ds_str x4 fun s5=>(if s5=s1 then L146_3 n s1 z2 true else L146_3 n s1 z2 false)else some false)
def L146_3:Nat->BA->Int->Bool->Option (Bool)
 | 0,_,_,_=>none
 | n+1,s1,z2,b6=>
  (if b6=true then some true else letF (IntKind.wrap .i64 (z2+1)) fun z7=>L146_1 n s1 z7)
end
def F146 (n:Nat) (s1:BA):Option (Bool):=
 L146_1 n s1 (0:Int)
end Go.Proofs.YtjmofeakajdbiaaGreatDoor
end
set_option linter.unusedVariables false
noncomputable section
namespace Go.Proofs.YtjmofeakajdbiaaGreatDoor
open Go Go.AM
def bl (s:ByteArray):List UInt8:=s.data.toList
theorem bl_len (s:ByteArray):s.size=(bl s).length:=(Array.length_toList (xs:=s.data)).symm
theorem bl_inj {s t:ByteArray}(h:bl s=bl t):s=t:=by
 cases s;cases t
 simp only[bl]at h
 rw[Array.toList_inj.1 h]
theorem atF_get {γ:Type}{s:ByteArray}{i:Nat}{b:UInt8}{k:Int→Option γ}(h:(bl s)[i]?=some b):atF s (i:Int) k=k (b.toNat:Int):=by
 have hlt:i<s.size:=by rw[bl_len];exact (List.getElem?_eq_some_iff.1 h).1
 have hb:s[i]=b:=by
  have:=(List.getElem?_eq_some_iff.1 h).2
  rw[←this]
  simp[bl]
  rfl
 have h1:s[(i:Int).toNat]?=some b:=by
  rw[Int.toNat_natCast,getElem?_pos s i hlt,hb]
 unfold atF
 rw[if_pos (Int.natCast_nonneg i),h1]
 rfl
theorem szF_eq {γ:Type}{s:ByteArray}{k:Int→Option γ}:szF s k=k ((bl s).length:Int):=by
 unfold szF
 rw[bl_len]
def wordsL:List ByteArray:=[k_let,k_if,k_else,k_while,k_match,k_scope,k_spawn,k_lock,k_as,k_chan,k_drop,k_fn,k_struct,k_enum,k_true,k_false,k_and,k_or,k_not,k_int,k_bool,k_unit,k_mut,k_box,k_unbox,k_cell,k_get,k_set,k_rc,k_arc,k_clone,k_mutex,k_open,k_atomic,k_load,k_store,k_fetch,k_send,k_recv,k_Box,k_Cell,k_Rc,k_Arc,k_Mutex,k_Atomic,k_Sender,k_Receiver]
def word (s:ByteArray):Bool:=wordsL.any fun w=>decide (bl w=bl s)
theorem word_iff {s:ByteArray}:word s=true↔s∈wordsL:=by
 unfold word
 rw[List.any_eq_true]
 constructor
 ·rintro⟨w,hw,h⟩
  rw[←bl_inj (of_decide_eq_true h)];exact hw
 ·intro h
  exact⟨s,h,decide_eq_true rfl⟩
theorem word_no {s:ByteArray}(h:s∉wordsL):word s=false:=by
 cases hw:word s
 ·rfl
 ·exact absurd (word_iff.1 hw) h
theorem beq_bytes {a b:ByteArray}:(a==b)=true↔a=b:=by
 rw[beq_toListBytes]
 constructor
 ·intro h
  have h:=eq_of_beq h
  rw[ByteArray.toList_eq,ByteArray.toList_eq]at h
  exact bl_inj h
 ·rintro rfl
  exact beq_self_eq_true _
inductive WRows:List ByteArray→List D→Prop where
 | nil:WRows [] []
 | cons {w:ByteArray} {z:Int} {ws:List ByteArray} {rows:List D} (hz:0<z) (h:WRows ws rows):WRows (w::ws) (.agg [.str w,.int .i64 z]::rows)
theorem WRows.find {s:ByteArray}:∀{ws:List ByteArray}{rows:List D},WRows ws rows→(s∉ws∧findR false (.str s) rows=some none)∨∃z,s∈ws∧0<z∧findR false (.str s) rows=some (some (.int .i64 z))
 | _,_,.nil=>.inl ⟨by simp,rfl⟩
 | _,_,.cons (w:=w) (z:=z) (ws:=ws) (rows:=rows) hz h=>by
  cases hb:(s==w)with
  | true=>
   have:=beq_bytes.1 hb
   subst this
   exact .inr ⟨z,by simp,hz,by simp[findR,eqK,hb,rowOf]⟩
  | false=>
   have hne:s≠w:=fun e=>by rw[beq_bytes.2 e]at hb;cases hb
   rcases h.find (s:=s)with⟨h1,h2⟩ | ⟨z',h1,h2,h3⟩
   ·exact .inl ⟨by simp[hne,h1],by simp[findR,eqK,hb,h2]⟩
   ·exact .inr ⟨z',by simp[h1],h2,by simp[findR,eqK,hb,h3]⟩
theorem WRows.put {s:ByteArray}{z:Int}(hz:0<z):∀{ws:List ByteArray}{rows:List D},WRows ws rows→∃ws' rows',putR (.str s) [.int .i64 z] rows=some rows'∧WRows ws' rows'∧∀t,t∈ws'↔t=s∨t∈ws
 | _,_,.nil=>⟨[s],_,rfl,.cons hz .nil,by simp⟩
 | _,_,.cons (w:=w) (z:=z') (ws:=ws) (rows:=rows) hz' h=>by
  cases hb:(s==w)with
  | true=>
   have:=beq_bytes.1 hb
   subst this
   exact⟨s::ws,.agg [.str s,.int .i64 z]::rows,by simp[putR,eqK,hb],.cons hz h,by intro t;simp⟩
  | false=>
   obtain⟨ws',rows',h1,h2,h3⟩:=h.put (s:=s) hz
   refine⟨w::ws',.agg [.str w,.int .i64 z']::rows',by simp[putR,eqK,hb,h1],.cons hz' h2,fun t=>?_⟩
   simp only[List.mem_cons,h3]
   constructor
   ·rintro (h | h | h)<;>simp[h]
   ·rintro (h | h | h)<;>simp[h]
theorem fields_words:fieldsD k_let_if_else_while_match_=wordsL.map D.str:=by kernel_rfl
theorem ev50:Ev (fun n=>F152 n k_let_if_else_while_match_) (wordsL.map D.str):=Ev.of fun n=>by
 rw[←fields_words]
 unfold F152
 have h1:Nat.ble (k_let_if_else_while_match_).size 1000=true:=by kernel_rfl
 have h1:=Nat.le_of_ble_eq_true h1
 have h2:(Lib.fields (k_let_if_else_while_match_).data.toList).length=47:=by kernel_rfl
 rw[if_pos (by rw[h2];exact⟨by omega,by kernel_rfl,by decide⟩)]
theorem wordsL_len:wordsL.length=47:=rfl
theorem ev30:∃ws rows,Ev (fun n=>F151 n) rows∧WRows ws rows∧∀t,t∈ws↔t∈wordsL:=by
 have main:∀i:Nat,i≤47→∀ws rows,WRows ws rows→∃ws' rows',Ev (fun n=>L151_1 n (wordsL.map D.str) 47 (i:Int) rows) rows'∧WRows ws' rows'∧∀t,t∈ws'↔t∈wordsL.drop i∨t∈ws:=by
  refine down 47 ?_ ?_
  ·intro ws rows h
   refine⟨ws,rows,.succ (.succ (.of fun n=>?_)),h,fun t=>?_⟩
   ·rw[L151_1,if_neg (by omega),L151_2,if_neg Bool.false_ne_true]
   ·rw[List.drop_eq_nil_of_le (by rw[wordsL_len];omega)]
    simp
  ·intro i hi ih ws rows h
   have hlt:i<wordsL.length:=by rw[wordsL_len];exact hi
   obtain⟨ws1,rows1,h1,h2,h3⟩:=h.put (s:=wordsL[i]) (z:=((i+1:Nat):Int)) (by omega)
   obtain⟨ws2,rows2,h4,h5,h6⟩:=ih ws1 rows1 h2
   refine⟨ws2,rows2,.succ (.succ (h4.congr fun n=>?_)),h5,fun t=>?_⟩
   ·have hw:(wordsL.map D.str)[i]?=some (.str wordsL[i]):=by simp[hlt]
    rw[L151_1,if_pos (by omega),L151_2,if_pos rfl,getF_nat hw]
    simp only[ds_str,letF,wrap_succ (N:=47) hi (by decide)]
    unfold putF
    rw[h1]
   ·rw[h6,h3,List.drop_eq_getElem_cons hlt]
    simp only[List.mem_cons]
    constructor
    ·rintro (h | h | h)<;>simp[h]
    ·rintro ((h | h) | h)<;>simp[h]
 obtain⟨ws,rows,h1,h2,h3⟩:=main 0 (by omega) [] [] .nil
 refine⟨ws,rows,?_,h2,by simpa using h3⟩
 unfold F151
 refine Ev.bO1 ev50 (h1.congr fun n=>?_)
 unfold lenF
 rfl
theorem ev11 (s:ByteArray):Ev (fun n=>F144 n s) (word s):=by
 obtain⟨ws,rows,h1,h2,h3⟩:=ev30
 unfold F144
 refine Ev.bO1 h1 (Ev.of fun n=>?_)
 unfold findF
 rcases h2.find (s:=s)with⟨h4,h5⟩ | ⟨z,h4,h5,h6⟩
 ·rw[h5]
  have:s∉wordsL:=fun h=>h4 ((h3 s).2 h)
  rw[word_no this]
 ·rw[h6]
  have:s∈wordsL:=(h3 s).1 h4
  rw[word_iff.2 this]
  simp[ds_i64,h5]
theorem ev12 (s:ByteArray):Ev (fun n=>F146 n s) (word s):=by
 have main:∀i:Nat,i≤47→Ev (fun n=>L146_1 n s (i:Int)) ((wordsL.drop i).any fun w=>decide (bl w=bl s)):=by
  refine down 47 ?_ ?_
  ·refine .succ (.succ (.of fun n=>?_))
   rw[L146_1,if_neg (by omega),L146_2,if_neg Bool.false_ne_true,List.drop_eq_nil_of_le (by rw[wordsL_len];omega)]
   rfl
  ·intro i hi ih
   have hlt:i<wordsL.length:=by rw[wordsL_len];exact hi
   have hw:(wordsL.map D.str)[i]?=some (.str wordsL[i]):=by simp[hlt]
   have hw:([.str k_let,.str k_if,.str k_else,.str k_while,.str k_match,.str k_scope,.str k_spawn,.str k_lock,.str k_as,.str k_chan,.str k_drop,.str k_fn,.str k_struct,.str k_enum,.str k_true,.str k_false,.str k_and,.str k_or,.str k_not,.str k_int,.str k_bool,.str k_unit,.str k_mut,.str k_box,.str k_unbox,.str k_cell,.str k_get,.str k_set,.str k_rc,.str k_arc,.str k_clone,.str k_mutex,.str k_open,.str k_atomic,.str k_load,.str k_store,.str k_fetch,.str k_send,.str k_recv,.str k_Box,.str k_Cell,.str k_Rc,.str k_Arc,.str k_Mutex,.str k_Atomic,.str k_Sender,.str k_Receiver]:List D)[i]?=some (.str wordsL[i]):=hw
   rw[List.drop_eq_getElem_cons hlt,List.any_cons]
   by_cases he:wordsL[i]=s
   ·refine .succ (.succ (.succ (.of fun n=>?_)))
    rw[L146_1,if_pos (by omega),L146_2,if_pos rfl,getF_nat hw]
    simp only[ds_str]
    rw[if_pos he,L146_3,if_pos rfl,decide_eq_true (congrArg bl he)]
    rfl
   ·rw[decide_eq_false (fun e=>he (bl_inj e)),Bool.false_or]
    refine .succ (.succ (.succ (ih.congr fun n=>?_)))
    rw[L146_1,if_pos (by omega),L146_2,if_pos rfl,getF_nat hw]
    simp only[ds_str]
    rw[if_neg he,L146_3,if_neg Bool.false_ne_true]
    simp only[letF,wrap_succ (N:=47) hi (by decide)]
 have:=main 0 (by omega)
 unfold F146 word
 exact this
end Go.Proofs.YtjmofeakajdbiaaGreatDoor
set_option linter.unusedVariables false
noncomputable section
namespace Go.Proofs.YtjmofeakajdbiaaGreatDoor
open Go Go.AM
def F147 (n:Nat) (z1:Int):Option (Bool):=
 (if (97:Int)<=z1 then (if z1<=(122:Int)then some true else (if (65:Int)<=z1 then (if z1<=(90:Int)then some true else (if (48:Int)<=z1 then (if z1<=(57:Int)then some true else (if z1=(95:Int)then some true else some false))else (if z1=(95:Int)then some true else some false)))else (if (48:Int)<=z1 then (if z1<=(57:Int)then some true else (if z1=(95:Int)then some true else some false))else (if z1=(95:Int)then some true else some false))))else (if (65:Int)<=z1 then (if z1<=(90:Int)then some true else (if (48:Int)<=z1 then (if z1<=(57:Int)then some true else (if z1=(95:Int)then some true else some false))else (if z1=(95:Int)then some true else some false)))else (if (48:Int)<=z1 then (if z1<=(57:Int)then some true else (if z1=(95:Int)then some true else some false))else (if z1=(95:Int)then some true else some false))))
mutual
def L131_2:Nat->BA->Int->Option (Bool)
 | 0,_,_=>none
 | n+1,s1,z9=>
  szF s1 fun z10=>(if z9<z10 then L131_3 n s1 z9 true else L131_3 n s1 z9 false)
def L131_3:Nat->BA->Int->Bool->Option (Bool)
 | 0,_,_,_=>none
 | n+1,s1,z9,b11=>
  (if b11=true then atF s1 z9 fun z12=>bO1 (F147 n z12) fun b13=>letB (!b13) fun b14=>(if b14=true then some false else letF (IntKind.wrap .i64 (z9+1)) fun z15=>L131_2 n s1 z15)else some true)
end
def L131_1:Nat->BA->Bool->Option (Bool)
 | 0,_,_=>none
 | n+1,s1,b8=>
  (if b8=true then some false else L131_2 n s1 (0:Int))
def F131 (n:Nat) (s1:BA) (z2:Int) (z3:Int):Option (Bool):=
 (if s1=ByteArray.empty then L131_1 n s1 true else szF s1 fun z4=>(if (16:Int)<z4 then L131_1 n s1 true else atF s1 (0:Int) fun z5=>(if z5<z2 then L131_1 n s1 true else atF s1 (0:Int) fun z6=>(if z3<z6 then L131_1 n s1 true else bO1 (F146 n s1) fun b7=>L131_1 n s1 b7))))
def F81 (n:Nat) (s1:BA):Option (Bool):=
 bO1 (F131 n s1 (97:Int) (122:Int)) fun b2=>some b2
def F78 (n:Nat) (s1:BA):Option (Bool):=
 bO1 (F131 n s1 (65:Int) (90:Int)) fun b2=>some b2
end Go.Proofs.YtjmofeakajdbiaaGreatDoor
end
set_option linter.unusedVariables false
noncomputable section
namespace Go.Proofs.YtjmofeakajdbiaaGreatDoor
open Go Go.AM
def inZ (lo hi z:Int):Bool:=decide (lo≤z∧z≤hi)
def partZ (z:Int):Bool:=inZ 97 122 z || inZ 65 90 z || inZ 48 57 z || decide (z=95)
def pB (b:UInt8):Bool:=partZ (b.toNat:Int)
theorem f32 (n:Nat) (z:Int):F123 n z=some (inZ 97 122 z):=by
 unfold F123 inZ
 grind
theorem f34 (n:Nat) (z:Int):F122 n z=some (inZ 65 90 z):=by
 unfold F122 inZ
 grind
theorem f67 (n:Nat) (z:Int):F150 n z=some (inZ 48 57 z):=by
 unfold F150 inZ
 grind
theorem f52 (n:Nat) (z:Int):F143 n z=some (partZ z):=by
 unfold F143 partZ
 rw[f32,f34,f67]
 simp only[bO1]
 cases inZ 97 122 z<;>cases inZ 65 90 z<;>cases inZ 48 57 z<;>grind
theorem f53 (n:Nat) (z:Int):F147 n z=some (partZ z):=by
 unfold F147 partZ inZ
 grind
theorem pre_get {α:Type}{l pre rest:List α}{b:α}(h:pre++b::rest=l):l[pre.length]?=some b:=by
 rw[←h,List.getElem?_append_right (Nat.le_refl _)]
 simp
theorem evL51 {s:ByteArray}(hs:s.size≤maxLen):∀(rest pre:List UInt8),pre++rest=bl s→Ev (fun n=>L142_1 n s (pre.length:Int)) (((pre.length+(rest.takeWhile pB).length:Nat):Int))
 | [],pre,h=>by
  refine .succ (.succ (.of fun n=>?_))
  rw[L142_1,szF_eq,←h,if_neg (by simp),L142_2,if_neg Bool.false_ne_true]
  simp
 | b::rest,pre,h=>by
  have hlt:pre.length<(bl s).length:=by rw[←h];simp
  have hb:=pre_get h
  cases hp:pB b with
  | false=>
   refine .succ (.succ (.of fun n=>?_))
   rw[L142_1,szF_eq,if_pos (by omega),atF_get hb,f52]
   simp only[bO1]
   rw[show partZ (b.toNat:Int)=false from hp,L142_2,if_neg Bool.false_ne_true]
   simp[hp]
  | true=>
   have ih:=evL51 hs rest (pre++[b]) (by simpa using h)
   have e:(pre++[b]).length+(rest.takeWhile pB).length=pre.length+((b::rest).takeWhile pB).length:=by
    simp[hp];omega
   rw[e]at ih
   refine .succ (.succ (ih.congr fun n=>?_))
   rw[L142_1,szF_eq,if_pos (by omega),atF_get hb,f52]
   simp only[bO1]
   rw[show partZ (b.toNat:Int)=true from hp,L142_2,if_pos rfl]
   simp only[letF]
   rw[wrap_succ (N:=(bl s).length) hlt (by rw[←bl_len];exact hs)]
   simp
theorem ev51 {s:ByteArray}(hs:s.size≤maxLen):Ev (fun n=>F142 n s) (((bl s).takeWhile pB).length:Int):=by
 have:=evL51 hs (bl s) [] rfl
 unfold F142
 simpa using this
def nm (lo hi:Int) (s:ByteArray):Bool:=
 match bl s with
 | []=>false
 | b::r=>decide ((b::r).length≤16)&&inZ lo hi (b.toNat:Int)&&(b::r).all pB&&!word s
theorem takeWhile_all {α:Type}{p:α→Bool}:∀{l:List α},((l.takeWhile p).length=l.length)↔l.all p=true
 | []=>by simp
 | x::l=>by
  cases h:p x
  ·simp[h]
  ·simp[h,takeWhile_all (l:=l)]
theorem empty_iff {s:ByteArray}:s=ByteArray.empty↔bl s=[]:=by
 constructor
 ·rintro rfl;rfl
 ·intro h;exact bl_inj h
theorem ev_nm {G:Nat→Int→Option Bool}{lo hi:Int}(hG:∀n z,G n z=some (inZ lo hi z)) {s:ByteArray}(hs:s.size≤maxLen):
  Ev (fun n=>(if s=ByteArray.empty then some false else szF s fun z2=>(if z2≤(16:Int)then atF s (0:Int) fun z3=>bO1 (G n z3) fun b4=>(if b4=true then bO1 (F142 n s) fun z5=>szF s fun z6=>(if z5=z6 then bO1 (F144 n s) fun b7=>letB (!b7) fun b8=>some b8 else some false)else some false)else some false))) (nm lo hi s):=by
 cases h:bl s with
 | nil=>
  have hr:nm lo hi s=false:=by unfold nm;rw[h]
  rw[hr]
  exact .of fun n=>by rw[if_pos (empty_iff.2 h)]
 | cons b r=>
  have hr:nm lo hi s=(decide ((b::r).length≤16)&&inZ lo hi (b.toNat:Int)&&(b::r).all pB&&!word s):=by unfold nm;rw[h]
  rw[hr]
  clear hr
  have hne:s≠ByteArray.empty:=fun e=>by rw[empty_iff.1 e]at h;cases h
  have hb:(bl s)[0]?=some b:=by rw[h];rfl
  by_cases hl:(b::r).length≤16
  ·cases hz:inZ lo hi (b.toNat:Int)with
   | false=>
    refine .of fun n=>?_
    rw[if_neg hne,szF_eq,h,if_pos (by omega),show (0:Int)=((0:Nat):Int)from rfl,atF_get hb,hG,hz]
    simp[bO1]
   | true=>
    have step:∀r',Ev (fun n=>bO1 (F142 n s) fun z5=>szF s fun z6=>(if z5=z6 then bO1 (F144 n s) fun b7=>letB (!b7) fun b8=>some b8 else some false)) r'→
      Ev (fun n=>(if s=ByteArray.empty then some false else szF s fun z2=>(if z2≤(16:Int)then atF s (0:Int) fun z3=>bO1 (G n z3) fun b4=>(if b4=true then bO1 (F142 n s) fun z5=>szF s fun z6=>(if z5=z6 then bO1 (F144 n s) fun b7=>letB (!b7) fun b8=>some b8 else some false)else some false)else some false))) r':=fun r' hr=>hr.congr fun n=>by
     rw[if_neg hne,szF_eq (s:=s) (k:=fun z2=>if z2≤(16:Int)then _ else _),h,if_pos (by omega),show (0:Int)=((0:Nat):Int)from rfl,atF_get hb,hG,hz]
     simp[bO1]
    refine step _ (Ev.bO1 (ev51 hs) ?_)
    cases ha:(b::r).all pB with
    | false=>
     refine .of fun n=>?_
     rw[szF_eq,if_neg]
     ·simp
     ·intro e
      have:((bl s).takeWhile pB).length=(bl s).length:=by omega
      rw[takeWhile_all,h,ha]at this
      cases this
    | true=>
     refine Ev.congr (A:=fun n=>bO1 (F144 n s) fun b7=>letB (!b7) fun b8=>some b8) ?_ fun n=>?_
     ·refine Ev.bO1 (ev11 s) (.of fun n=>?_)
      simp only[letB,decide_eq_true hl,Bool.true_and]
     ·rw[szF_eq,if_pos]
      have:=takeWhile_all.2 (h▸ha:(bl s).all pB=true)
      omega
  ·refine .of fun n=>?_
   rw[if_neg hne,szF_eq,h,if_neg (by omega),decide_eq_false hl]
   rfl
theorem ev31 {s:ByteArray}(hs:s.size≤maxLen):Ev (fun n=>F121x1 n s) (nm 97 122 s):=ev_nm f32 hs
theorem ev31x1 {s:ByteArray}(hs:s.size≤maxLen):Ev (fun n=>F121 n s) (nm 65 90 s):=ev_nm f34 hs
theorem ev13 {s:ByteArray}(hs:s.size≤maxLen):Ev (fun n=>F74 n s) (nm 97 122 s):=Ev.bO1 (ev31 hs) .ret
theorem ev15 {s:ByteArray}(hs:s.size≤maxLen):Ev (fun n=>F73 n s) (nm 65 90 s):=Ev.bO1 (ev31x1 hs) .ret
theorem evL33 {s:ByteArray}(hs:s.size≤maxLen):∀(rest pre:List UInt8),pre++rest=bl s→Ev (fun n=>L131_2 n s (pre.length:Int)) (rest.all pB)
 | [],pre,h=>by
  refine .succ (.succ (.of fun n=>?_))
  rw[L131_2,szF_eq,←h,if_neg (by simp),L131_3,if_neg Bool.false_ne_true]
  simp
 | b::rest,pre,h=>by
  have hlt:pre.length<(bl s).length:=by rw[←h];simp
  have hb:=pre_get h
  cases hp:pB b with
  | false=>
   refine .succ (.succ (.of fun n=>?_))
   rw[L131_2,szF_eq,if_pos (by omega),L131_3,if_pos rfl,atF_get hb,f53]
   simp only[bO1,letB]
   rw[show partZ (b.toNat:Int)=false from hp]
   simp[hp]
  | true=>
   have ih:=evL33 hs rest (pre++[b]) (by simpa using h)
   refine .succ (.succ (Ev.congr (r:=(b::rest).all pB) (by simpa [hp] using ih) fun n=>?_))
   rw[L131_2,szF_eq,if_pos (by omega),L131_3,if_pos rfl,atF_get hb,f53]
   simp only[bO1,letB]
   rw[show partZ (b.toNat:Int)=true from hp]
   simp only[letF,Bool.not_true,Bool.false_eq_true,if_false]
   rw[wrap_succ (N:=(bl s).length) hlt (by rw[←bl_len];exact hs)]
   simp
theorem ev33 {s:ByteArray}(hs:s.size≤maxLen) (lo hi:Int):Ev (fun n=>F131 n s lo hi) (nm lo hi s):=by
 have t:∀n,L131_1 (n+1) s true=some false:=fun n=>by rw[L131_1,if_pos rfl]
 cases h:bl s with
 | nil=>
  have hr:nm lo hi s=false:=by unfold nm;rw[h]
  rw[hr]
  exact .succ (.of fun n=>by unfold F131;rw[if_pos (empty_iff.2 h),t])
 | cons b r=>
  have hr:nm lo hi s=(decide ((b::r).length≤16)&&inZ lo hi (b.toNat:Int)&&(b::r).all pB&&!word s):=by unfold nm;rw[h]
  rw[hr]
  clear hr
  have hne:s≠ByteArray.empty:=fun e=>by rw[empty_iff.1 e]at h;cases h
  have hb:(bl s)[0]?=some b:=by rw[h];rfl
  have z0:(0:Int)=((0:Nat):Int):=rfl
  by_cases hl:(b::r).length≤16
  ·by_cases h1:(b.toNat:Int)<lo
   ·refine .succ (.of fun n=>?_)
    unfold F131
    rw[if_neg hne,szF_eq,h,if_neg (by omega),z0,atF_get hb,if_pos h1,t]
    simp[inZ,show ¬lo≤(b.toNat:Int)by omega]
   ·by_cases h2:hi<(b.toNat:Int)
    ·refine .succ (.of fun n=>?_)
     unfold F131
     rw[if_neg hne,szF_eq,h,if_neg (by omega),z0,atF_get hb,if_neg h1,atF_get hb,if_pos h2,t]
     simp[inZ,show ¬(b.toNat:Int)≤hi by omega]
    ·have hin:inZ lo hi (b.toNat:Int)=true:=by simp[inZ];omega
     refine Ev.congr (A:=fun n=>bO1 (F146 n s) fun b7=>L131_1 n s b7) (Ev.bO1 (ev12 s) ?_) fun n=>?_
     ·cases hw:word s with
      | true=>exact .succ (.of fun n=>by rw[t];simp)
      | false=>
       refine .succ ?_
       have h9:Ev (fun n=>L131_2 n s ((0:Nat):Int)) ((bl s).all pB):=evL33 hs (bl s) [] rfl
       have h8:Ev (fun n=>L131_1 (n+1) s false) ((bl s).all pB):=h9.congr fun n=>by rw[L131_1,if_neg Bool.false_ne_true];rfl
       rw[h]at h8
       rw[decide_eq_true hl,hin,Bool.true_and,Bool.true_and,Bool.not_false,Bool.and_true]
       exact h8
     ·unfold F131
      rw[if_neg hne,szF_eq,h,if_neg (by omega),z0,atF_get hb,if_neg h1,atF_get hb,if_neg h2]
  ·refine .succ (.of fun n=>?_)
   unfold F131
   rw[if_neg hne,szF_eq,h,if_pos (by omega),t,decide_eq_false hl]
   rfl
theorem ev14 {s:ByteArray}(hs:s.size≤maxLen):Ev (fun n=>F81 n s) (nm 97 122 s):=Ev.bO1 (ev33 hs 97 122) .ret
theorem ev16 {s:ByteArray}(hs:s.size≤maxLen):Ev (fun n=>F78 n s) (nm 65 90 s):=Ev.bO1 (ev33 hs 65 90) .ret
end Go.Proofs.YtjmofeakajdbiaaGreatDoor
set_option linter.unusedVariables false
noncomputable section
namespace Go.Proofs.YtjmofeakajdbiaaGreatDoor
open Go Go.AM
def L26_1:Nat->BA->Int->Bool->Option (Int)
 | 0,_,_,_=>none
 | n+1,s1,z2,b5=>
  (if b5=true then some (-1:Int)else letF (IntKind.wrap .i64 (z2 - 5)) fun z6=>szF s1 fun z7=>letF (IntKind.wrap .i64 (z6 - z7)) fun z8=>some z8)
def F26 (n:Nat) (s1:BA) (z2:Int):Option (Int):=
 (if z2<(5:Int)then L26_1 n s1 z2 true else szF s1 fun z3=>letF (IntKind.wrap .i64 (z2 - 5)) fun z4=>(if z4<z3 then L26_1 n s1 z2 true else L26_1 n s1 z2 false))
theorem T26 (n:Nat):∀⦃s1 z2 r1⦄,F26 n s1 z2=some r1->
    Trip Tryz.prog inv 26 [.c (.ptr (.ext 0) 0),.d (.str s1)] [.cells [.d (.int .i64 z2)]] (.t []) [.cells [.d (.int .i64 r1)]] []:=by
 intro s1 z2 r1 h
 unfold F26 at h
 refine Trip.of tab_ok tab_one fol Tryz.func26 rfl (by kernel_rfl) rfl rfl rfl (fun M hM hI=>?_)
 try cbv
 refine seq_go ?_
 try cbv
 refine seq_joinB 18 [0,1,18] [.ext 0] 480 (fun m b=>m<=n/\L26_1 m s1 z2 b=some r1) ?_ ?_
 ·try cbv
  refine splitL (fun e=>?_) (fun e=>?_)
  ·replace h:=ite_t e h
   clear e
   try cbv
   exact join_next (n,true) [0,1,18] [.ext 0] 480 ⟨by omega,h⟩ (by cbv)
  replace h:=ite_f (Int.not_lt.2 e) h
  clear e
  try cbv
  replace h:=szF_inv M h
  obtain⟨z3,hz,h⟩:=h
  refine⟨z3,hz,?_⟩
  clear hz
  try cbv
  replace h:=letF_inv h
  obtain⟨z4,hz,h⟩:=h
  refine⟨z4,hz,?_⟩
  clear hz
  try cbv
  refine splitL (fun e=>?_) (fun e=>?_)
  ·replace h:=ite_t e h
   clear e
   try cbv
   exact join_next (n,true) [0,1,18] [.ext 0] 480 ⟨by omega,h⟩ (by cbv)
  replace h:=ite_f (Int.not_lt.2 e) h
  clear e
  try cbv
  exact join_next (n,false) [0,1,18] [.ext 0] 480 ⟨by omega,h⟩ (by cbv)
 clear h
 rintro⟨m1,b5⟩ ⟨hm1,h⟩
 try cbv
 replace hm1:m1<=n:=hm1
 obtain _ | m1:=m1
 ·replace h:L26_1 0 s1 z2 b5=some r1:=h
  rw[L26_1]at h
  cases h
 replace h:L26_1 (m1+1) s1 z2 b5=some r1:=h
 rw[L26_1]at h
 try cbv
 cases b5
 rotate_left
 ·replace h:=itT h
  try cbv
  refine seq_go ?_
  try cbv
  obtain rfl:=Option.some.inj h
  refine fin_go ?_
  try cbv
  exact⟨[],rfl,rfl,⟨rfl,trivial⟩,trivial,trivial⟩
 replace h:=itF h
 try cbv
 replace h:=letF_inv h
 obtain⟨z6,hz,h⟩:=h
 refine⟨z6,hz,?_⟩
 clear hz
 try cbv
 replace h:=szF_inv M h
 obtain⟨z7,hz,h⟩:=h
 refine⟨z7,hz,?_⟩
 clear hz
 try cbv
 replace h:=letF_inv h
 obtain⟨z8,hz,h⟩:=h
 refine⟨z8,hz,?_⟩
 clear hz
 try cbv
 obtain rfl:=Option.some.inj h
 refine fin_go ?_
 try cbv
 exact⟨[],rfl,rfl,⟨rfl,trivial⟩,trivial,trivial⟩
mutual
def L28_1:Nat->LD->Int->Int->Option (Int)
 | 0,_,_,_=>none
 | n+1,l3,z6,z7=>
  lenF l3 fun z8=>(if z6<z8 then (if (0:Int)<=z7 then L28_2 n l3 z6 z7 true else L28_2 n l3 z6 z7 false)else L28_2 n l3 z6 z7 false)
def L28_2:Nat->LD->Int->Int->Bool->Option (Int)
 | 0,_,_,_,_=>none
 | n+1,l3,z6,z7,b9=>
  (if b9=true then getF l3 z6 fun x10=>ds_t33 x10 fun z11 s12 l13=>bO1 (F28 n z11 s12 l13 z7) fun z14=>letF (IntKind.wrap .i64 (z6+1)) fun z15=>L28_1 n l3 z15 z14 else some z7)
def F28:Nat->Int->BA->LD->Int->Option (Int)
 | 0,_,_,_,_=>none
 | n+1,z1,s2,l3,z4=>
  bO1 (F26 n s2 z4) fun z5=>L28_1 n l3 (0:Int) z5
end
theorem T28 (n:Nat):∀⦃z1 s2 l3 z4 r1⦄,F28 n z1 s2 l3 z4=some r1->
    Trip Tryz.prog inv 28 [.c (.ptr (.ext 0) 0),.d (.agg [.int .u8 z1,.str s2,.list true 3 l3])] [.cells [.d (.int .i64 z4)]] (.t []) [.cells [.d (.int .i64 r1)]] []:=by
 induction n using Nat.strongRecOn with | _ n ih=>
 obtain _ | n:=n
 ·intro z1 s2 l3 z4 r1 h
  cases (show (none:Option _)=some _ from h)
 intro z1 s2 l3 z4 r1 h
 rw[F28]at h
 refine Trip.of tab_ok tab_one fol Tryz.func28 rfl (by kernel_rfl) rfl rfl rfl (fun M hM hI=>?_)
 try cbv
 refine seq_go ?_
 try cbv
 refine seq_go ?_
 try cbv
 replace h:=bO1_inv h
 obtain⟨z5,hr,h⟩:=h
 refine call_go rfl rfl ?_
 try cbv
 refine call_with hM hI [.ext 0] (T26 _ hr) rfl (by simp) ⟨rfl,trivial⟩ ⟨trivial,trivial⟩ (by simp) ?_
 clear hr
 try cbv
 refine seq_go ?_
 try cbv
 refine loop_inv (T:=Nat×Int×Int) [0,3,4] [.ext 0,.loc 0] 192 (fun t=>⟨[sE 0 0,sL 3 0,sI 4 t.2.1],[(.ext 0,.cells [.d (.int .i64 t.2.2)]),(.loc 0,.cells [.d (.int .u8 z1),.d (.str s2),.d (.list true 3 l3)])],192⟩)
   (fun t=>t.1<=n/\L28_1 t.1 l3 t.2.1 t.2.2=some r1) (fun t=>t.1) (n,((0:Int),z5)) ⟨Nat.le_refl _,h⟩ (by cbv) ?_
 clear h
 rintro⟨m1,z6,z7⟩ ⟨hm1,h⟩
 replace hm1:m1<=n:=hm1
 obtain _ | m1:=m1
 ·replace h:L28_1 0 l3 z6 z7=some r1:=h
  rw[L28_1]at h
  cases h
 replace h:L28_1 (m1+1) l3 z6 z7=some r1:=h
 rw[L28_1]at h
 try cbv
 refine seq_go ?_
 try cbv
 refine seq_joinB 20 [0,3,4,20] [.ext 0,.loc 0] 576 (fun m b=>m<=m1/\L28_2 m l3 z6 z7 b=some r1) ?_ ?_
 ·try cbv
  replace h:=lenF_inv M h
  obtain⟨z8,hz,h⟩:=h
  refine⟨z8,hz,?_⟩
  clear hz
  try cbv
  refine splitL (fun e=>?_) (fun e=>?_)
  ·replace h:=ite_t e h
   clear e
   try cbv
   refine splitLe (fun e=>?_) (fun e=>?_)
   ·replace h:=ite_t e h
    clear e
    try cbv
    exact join_next (m1,true) [0,3,4,20] [.ext 0,.loc 0] 576 ⟨by omega,h⟩ (by cbv)
   replace h:=ite_f (Int.not_le.2 e) h
   clear e
   try cbv
   exact join_next (m1,false) [0,3,4,20] [.ext 0,.loc 0] 576 ⟨by omega,h⟩ (by cbv)
  replace h:=ite_f (Int.not_lt.2 e) h
  clear e
  try cbv
  exact join_next (m1,false) [0,3,4,20] [.ext 0,.loc 0] 576 ⟨by omega,h⟩ (by cbv)
 clear h
 rintro⟨m2,b9⟩ ⟨hm2,h⟩
 try cbv
 replace hm2:m2<=m1:=hm2
 obtain _ | m2:=m2
 ·replace h:L28_2 0 l3 z6 z7 b9=some r1:=h
  rw[L28_2]at h
  cases h
 replace h:L28_2 (m2+1) l3 z6 z7 b9=some r1:=h
 rw[L28_2]at h
 try cbv
 cases b9
 ·replace h:=itF h
  try cbv
  obtain rfl:=Option.some.inj h
  refine fin_go ?_
  try cbv
  exact⟨[],rfl,rfl,⟨rfl,trivial⟩,trivial,trivial⟩
 replace h:=itT h
 try cbv
 refine seq_go ?_
 try cbv
 replace h:=getF_inv h
 obtain⟨x10,⟨hx0,hx⟩,h⟩:=h
 refine⟨x10,hx0,hx,?_⟩
 clear hx0 hx
 replace h:=ds_t33_inv h
 obtain⟨z11,s12,l13,rfl,h⟩:=h
 try cbv
 replace h:=bO1_inv h
 obtain⟨z14,hr,h⟩:=h
 refine call_go rfl rfl ?_
 try cbv
 refine call_with hM hI [.ext 0] ((ih _ (by omega)) hr) rfl (by simp) ⟨rfl,trivial⟩ ⟨trivial,trivial⟩ (by simp) ?_
 clear hr
 try cbv
 replace h:=letF_inv h
 obtain⟨z15,hz,h⟩:=h
 refine⟨z15,hz,?_⟩
 clear hz
 try cbv
 exact loop_next (m2,(z15,z14)) [0,3,4] [.ext 0,.loc 0] 192 ⟨by omega,h⟩ (Nat.lt_succ_of_le (by omega)) (by cbv)
mutual
def L66_1:Nat->LD->Int->Int->Option (Int)
 | 0,_,_,_=>none
 | n+1,l1,z4,z5=>
  lenF l1 fun z6=>(if z4<z6 then (if (0:Int)<=z5 then L66_2 n l1 z4 z5 true else L66_2 n l1 z4 z5 false)else L66_2 n l1 z4 z5 false)
def L66_2:Nat->LD->Int->Int->Bool->Option (Int)
 | 0,_,_,_,_=>none
 | n+1,l1,z4,z5,b7=>
  (if b7=true then getF l1 z4 fun x8=>ds_str x8 fun s9=>bO1 (F26 n s9 z5) fun z10=>letF (IntKind.wrap .i64 (z4+1)) fun z11=>L66_1 n l1 z11 z10 else some z5)
end
def F66 (n:Nat) (l1:LD) (z2:Int):Option (Int):=
 letF (IntKind.wrap .i64 (z2 - 5)) fun z3=>L66_1 n l1 (0:Int) z3
theorem T66 (n:Nat):∀⦃l1 z2 r1⦄,F66 n l1 z2=some r1->
    Trip Tryz.prog inv 66 [.c (.ptr (.ext 0) 0),.d (.list false 1 l1)] [.cells [.d (.int .i64 z2)]] (.t []) [.cells [.d (.int .i64 r1)]] []:=by
 intro l1 z2 r1 h
 unfold F66 at h
 refine Trip.of tab_ok tab_one fol Tryz.func66 rfl (by kernel_rfl) rfl rfl rfl (fun M hM hI=>?_)
 try cbv
 refine seq_go ?_
 try cbv
 replace h:=letF_inv h
 obtain⟨z3,hz,h⟩:=h
 refine⟨z3,hz,?_⟩
 clear hz
 try cbv
 refine seq_go ?_
 try cbv
 refine loop_inv (T:=Nat×Int×Int) [0,1,4] [.ext 0] 320 (fun t=>⟨[sE 0 0,sF 1 1 l1,sI 4 t.2.1],[(.ext 0,.cells [.d (.int .i64 t.2.2)])],320⟩)
   (fun t=>t.1<=n/\L66_1 t.1 l1 t.2.1 t.2.2=some r1) (fun t=>t.1) (n,((0:Int),z3)) ⟨Nat.le_refl _,h⟩ (by cbv) ?_
 clear h
 rintro⟨m1,z4,z5⟩ ⟨hm1,h⟩
 replace hm1:m1<=n:=hm1
 obtain _ | m1:=m1
 ·replace h:L66_1 0 l1 z4 z5=some r1:=h
  rw[L66_1]at h
  cases h
 replace h:L66_1 (m1+1) l1 z4 z5=some r1:=h
 rw[L66_1]at h
 try cbv
 refine seq_go ?_
 try cbv
 refine seq_joinB 23 [0,1,4,23] [.ext 0] 672 (fun m b=>m<=m1/\L66_2 m l1 z4 z5 b=some r1) ?_ ?_
 ·try cbv
  replace h:=lenF_inv M h
  obtain⟨z6,hz,h⟩:=h
  refine⟨z6,hz,?_⟩
  clear hz
  try cbv
  refine splitL (fun e=>?_) (fun e=>?_)
  ·replace h:=ite_t e h
   clear e
   try cbv
   refine splitLe (fun e=>?_) (fun e=>?_)
   ·replace h:=ite_t e h
    clear e
    try cbv
    exact join_next (m1,true) [0,1,4,23] [.ext 0] 672 ⟨by omega,h⟩ (by cbv)
   replace h:=ite_f (Int.not_le.2 e) h
   clear e
   try cbv
   exact join_next (m1,false) [0,1,4,23] [.ext 0] 672 ⟨by omega,h⟩ (by cbv)
  replace h:=ite_f (Int.not_lt.2 e) h
  clear e
  try cbv
  exact join_next (m1,false) [0,1,4,23] [.ext 0] 672 ⟨by omega,h⟩ (by cbv)
 clear h
 rintro⟨m2,b7⟩ ⟨hm2,h⟩
 try cbv
 replace hm2:m2<=m1:=hm2
 obtain _ | m2:=m2
 ·replace h:L66_2 0 l1 z4 z5 b7=some r1:=h
  rw[L66_2]at h
  cases h
 replace h:L66_2 (m2+1) l1 z4 z5 b7=some r1:=h
 rw[L66_2]at h
 try cbv
 cases b7
 ·replace h:=itF h
  try cbv
  obtain rfl:=Option.some.inj h
  refine fin_go ?_
  try cbv
  exact⟨[],rfl,rfl,⟨rfl,trivial⟩,trivial,trivial⟩
 replace h:=itT h
 try cbv
 refine seq_go ?_
 try cbv
 replace h:=getF_inv h
 obtain⟨x8,⟨hx0,hx⟩,h⟩:=h
 refine⟨x8,hx0,hx,?_⟩
 clear hx0 hx
 replace h:=ds_str_inv h
 obtain⟨s9,rfl,h⟩:=h
 try cbv
 replace h:=bO1_inv h
 obtain⟨z10,hr,h⟩:=h
 refine call_go rfl rfl ?_
 try cbv
 refine call_with hM hI [.ext 0] (T26 _ hr) rfl (by simp) ⟨rfl,trivial⟩ ⟨trivial,trivial⟩ (by simp) ?_
 clear hr
 try cbv
 replace h:=letF_inv h
 obtain⟨z11,hz,h⟩:=h
 refine⟨z11,hz,?_⟩
 clear hz
 try cbv
 exact loop_next (m2,(z11,z10)) [0,1,4] [.ext 0] 320 ⟨by omega,h⟩ (Nat.lt_succ_of_le (by omega)) (by cbv)
def F67 (n:Nat) (s1:BA) (l2:LD) (z3:Int):Option (Int):=
 bO1 (F26 n s1 z3) fun z4=>bO1 (F66 n l2 z4) fun z5=>some z5
theorem T67 (n:Nat):∀⦃s1 l2 z3 r1⦄,F67 n s1 l2 z3=some r1->
    Trip Tryz.prog inv 67 [.c (.ptr (.ext 0) 0),.d (.agg [.str s1,.list false 1 l2])] [.cells [.d (.int .i64 z3)]] (.t []) [.cells [.d (.int .i64 r1)]] []:=by
 intro s1 l2 z3 r1 h
 unfold F67 at h
 refine Trip.of tab_ok tab_one fol Tryz.func67 rfl (by kernel_rfl) rfl rfl rfl (fun M hM hI=>?_)
 try cbv
 refine seq_go ?_
 try cbv
 refine seq_go ?_
 try cbv
 replace h:=bO1_inv h
 obtain⟨z4,hr,h⟩:=h
 refine call_go rfl rfl ?_
 try cbv
 refine call_with hM hI [.ext 0] (T26 _ hr) rfl (by simp) ⟨rfl,trivial⟩ ⟨trivial,trivial⟩ (by simp) ?_
 clear hr
 try cbv
 replace h:=bO1_inv h
 obtain⟨z5,hr,h⟩:=h
 refine call_go rfl rfl ?_
 try cbv
 refine call_with hM hI [.ext 0] (T66 _ hr) rfl (by simp) ⟨rfl,trivial⟩ ⟨trivial,trivial⟩ (by simp) ?_
 clear hr
 try cbv
 obtain rfl:=Option.some.inj h
 refine fin_go ?_
 try cbv
 exact⟨[],rfl,rfl,⟨rfl,trivial⟩,trivial,trivial⟩
mutual
def L30_1:Nat->LD->Int->Int->Option (Int)
 | 0,_,_,_=>none
 | n+1,l7,z13,z14=>
  lenF l7 fun z15=>(if z13<z15 then (if (0:Int)<=z14 then L30_2 n l7 z13 z14 true else L30_2 n l7 z13 z14 false)else L30_2 n l7 z13 z14 false)
def L30_2:Nat->LD->Int->Int->Bool->Option (Int)
 | 0,_,_,_,_=>none
 | n+1,l7,z13,z14,b16=>
  (if b16=true then getF l7 z13 fun x17=>ds_t39 x17 fun z18 z19 s20 s21 s22 l23 l24 z25=>bO1 (F30 n z18 z19 s20 s21 s22 l23 l24 z25 z14) fun z26=>letF (IntKind.wrap .i64 (z13+1)) fun z27=>L30_1 n l7 z27 z26 else some z14)
def F30:Nat->Int->Int->BA->BA->BA->LD->LD->Int->Int->Option (Int)
 | 0,_,_,_,_,_,_,_,_,_=>none
 | n+1,z1,z2,s3,s4,s5,l6,l7,z8,z9=>
  bO1 (F26 n s3 z9) fun z10=>bO1 (F26 n s4 z10) fun z11=>bO1 (F67 n s5 l6 z11) fun z12=>L30_1 n l7 (0:Int) z12
end
theorem T30 (n:Nat):∀⦃z1 z2 s3 s4 s5 l6 l7 z8 z9 r1⦄,F30 n z1 z2 s3 s4 s5 l6 l7 z8 z9=some r1->
    Trip Tryz.prog inv 30 [.c (.ptr (.ext 0) 0),.d (.agg [.int .u8 z1,.int .i64 z2,.str s3,.str s4,.str s5,.list false 1 l6,.list true 8 l7,.int .i64 z8])] [.cells [.d (.int .i64 z9)]] (.t []) [.cells [.d (.int .i64 r1)]] []:=by
 induction n using Nat.strongRecOn with | _ n ih=>
 obtain _ | n:=n
 ·intro z1 z2 s3 s4 s5 l6 l7 z8 z9 r1 h
  cases (show (none:Option _)=some _ from h)
 intro z1 z2 s3 s4 s5 l6 l7 z8 z9 r1 h
 rw[F30]at h
 refine Trip.of tab_ok tab_one fol Tryz.func30 rfl (by kernel_rfl) rfl rfl rfl (fun M hM hI=>?_)
 try cbv
 refine seq_go ?_
 try cbv
 refine seq_go ?_
 try cbv
 replace h:=bO1_inv h
 obtain⟨z10,hr,h⟩:=h
 refine call_go rfl rfl ?_
 try cbv
 refine call_with hM hI [.ext 0] (T26 _ hr) rfl (by simp) ⟨rfl,trivial⟩ ⟨trivial,trivial⟩ (by simp) ?_
 clear hr
 try cbv
 refine seq_go ?_
 try cbv
 replace h:=bO1_inv h
 obtain⟨z11,hr,h⟩:=h
 refine call_go rfl rfl ?_
 try cbv
 refine call_with hM hI [.ext 0] (T26 _ hr) rfl (by simp) ⟨rfl,trivial⟩ ⟨trivial,trivial⟩ (by simp) ?_
 clear hr
 try cbv
 refine seq_go ?_
 try cbv
 replace h:=bO1_inv h
 obtain⟨z12,hr,h⟩:=h
 refine call_go rfl rfl ?_
 try cbv
 refine call_with hM hI [.ext 0] (T67 _ hr) rfl (by simp) ⟨rfl,trivial⟩ ⟨trivial,trivial⟩ (by simp) ?_
 clear hr
 try cbv
 refine seq_go ?_
 try cbv
 refine loop_inv (T:=Nat×Int×Int) [0,3,4] [.ext 0,.loc 0] 448 (fun t=>⟨[sE 0 0,sL 3 0,sI 4 t.2.1],[(.ext 0,.cells [.d (.int .i64 t.2.2)]),(.loc 0,.cells [.d (.int .u8 z1),.d (.int .i64 z2),.d (.str s3),.d (.str s4),.d (.str s5),.d (.list false 1 l6),.d (.list true 8 l7),.d (.int .i64 z8)])],448⟩)
   (fun t=>t.1<=n/\L30_1 t.1 l7 t.2.1 t.2.2=some r1) (fun t=>t.1) (n,((0:Int),z12)) ⟨Nat.le_refl _,h⟩ (by cbv) ?_
 clear h
 rintro⟨m1,z13,z14⟩ ⟨hm1,h⟩
 replace hm1:m1<=n:=hm1
 obtain _ | m1:=m1
 ·replace h:L30_1 0 l7 z13 z14=some r1:=h
  rw[L30_1]at h
  cases h
 replace h:L30_1 (m1+1) l7 z13 z14=some r1:=h
 rw[L30_1]at h
 try cbv
 refine seq_go ?_
 try cbv
 refine seq_joinB 28 [0,3,4,28] [.ext 0,.loc 0] 832 (fun m b=>m<=m1/\L30_2 m l7 z13 z14 b=some r1) ?_ ?_
 ·try cbv
  replace h:=lenF_inv M h
  obtain⟨z15,hz,h⟩:=h
  refine⟨z15,hz,?_⟩
  clear hz
  try cbv
  refine splitL (fun e=>?_) (fun e=>?_)
  ·replace h:=ite_t e h
   clear e
   try cbv
   refine splitLe (fun e=>?_) (fun e=>?_)
   ·replace h:=ite_t e h
    clear e
    try cbv
    exact join_next (m1,true) [0,3,4,28] [.ext 0,.loc 0] 832 ⟨by omega,h⟩ (by cbv)
   replace h:=ite_f (Int.not_le.2 e) h
   clear e
   try cbv
   exact join_next (m1,false) [0,3,4,28] [.ext 0,.loc 0] 832 ⟨by omega,h⟩ (by cbv)
  replace h:=ite_f (Int.not_lt.2 e) h
  clear e
  try cbv
  exact join_next (m1,false) [0,3,4,28] [.ext 0,.loc 0] 832 ⟨by omega,h⟩ (by cbv)
 clear h
 rintro⟨m2,b16⟩ ⟨hm2,h⟩
 try cbv
 replace hm2:m2<=m1:=hm2
 obtain _ | m2:=m2
 ·replace h:L30_2 0 l7 z13 z14 b16=some r1:=h
  rw[L30_2]at h
  cases h
 replace h:L30_2 (m2+1) l7 z13 z14 b16=some r1:=h
 rw[L30_2]at h
 try cbv
 cases b16
 ·replace h:=itF h
  try cbv
  obtain rfl:=Option.some.inj h
  refine fin_go ?_
  try cbv
  exact⟨[],rfl,rfl,⟨rfl,trivial⟩,trivial,trivial⟩
 replace h:=itT h
 try cbv
 refine seq_go ?_
 try cbv
 replace h:=getF_inv h
 obtain⟨x17,⟨hx0,hx⟩,h⟩:=h
 refine⟨x17,hx0,hx,?_⟩
 clear hx0 hx
 replace h:=ds_t39_inv h
 obtain⟨z18,z19,s20,s21,s22,l23,l24,z25,rfl,h⟩:=h
 try cbv
 replace h:=bO1_inv h
 obtain⟨z26,hr,h⟩:=h
 refine call_go rfl rfl ?_
 try cbv
 refine call_with hM hI [.ext 0] ((ih _ (by omega)) hr) rfl (by simp) ⟨rfl,trivial⟩ ⟨trivial,trivial⟩ (by simp) ?_
 clear hr
 try cbv
 replace h:=letF_inv h
 obtain⟨z27,hz,h⟩:=h
 refine⟨z27,hz,?_⟩
 clear hz
 try cbv
 exact loop_next (m2,(z27,z26)) [0,3,4] [.ext 0,.loc 0] 448 ⟨by omega,h⟩ (Nat.lt_succ_of_le (by omega)) (by cbv)
end Go.Proofs.YtjmofeakajdbiaaGreatDoor
end
set_option linter.unusedVariables false
noncomputable section
namespace Go.Proofs.YtjmofeakajdbiaaGreatDoor
open Go Go.AM
theorem llen1 {l:List D}(h:l.length=1):∃x0,l=[x0]:=by
 match l,h with
 | [x0],_=>exact⟨x0,rfl⟩
theorem llen3 {l:List D}(h:l.length=3):∃x0 x1 x2,l=[x0,x1,x2]:=by
 match l,h with
 | [x0,x1,x2],_=>exact⟨x0,x1,x2,rfl⟩
theorem llen4 {l:List D}(h:l.length=4):∃x0 x1 x2 x3,l=[x0,x1,x2,x3]:=by
 match l,h with
 | [x0,x1,x2,x3],_=>exact⟨x0,x1,x2,x3,rfl⟩
theorem llen8 {l:List D}(h:l.length=8):∃x0 x1 x2 x3 x4 x5 x6 x7,l=[x0,x1,x2,x3,x4,x5,x6,x7]:=by
 match l,h with
 | [x0,x1,x2,x3,x4,x5,x6,x7],_=>exact⟨x0,x1,x2,x3,x4,x5,x6,x7,rfl⟩
theorem llen15 {l:List D}(h:l.length=15):∃x0 x1 x2 x3 x4 x5 x6 x7 x8 x9 x10 x11 x12 x13 x14,l=[x0,x1,x2,x3,x4,x5,x6,x7,x8,x9,x10,x11,x12,x13,x14]:=by
 match l,h with
 | [x0,x1,x2,x3,x4,x5,x6,x7,x8,x9,x10,x11,x12,x13,x14],_=>exact⟨x0,x1,x2,x3,x4,x5,x6,x7,x8,x9,x10,x11,x12,x13,x14,rfl⟩
theorem llen16 {l:List D}(h:l.length=16):∃x0 x1 x2 x3 x4 x5 x6 x7 x8 x9 x10 x11 x12 x13 x14 x15,l=[x0,x1,x2,x3,x4,x5,x6,x7,x8,x9,x10,x11,x12,x13,x14,x15]:=by
 match l,h with
 | [x0,x1,x2,x3,x4,x5,x6,x7,x8,x9,x10,x11,x12,x13,x14,x15],_=>exact⟨x0,x1,x2,x3,x4,x5,x6,x7,x8,x9,x10,x11,x12,x13,x14,x15,rfl⟩
theorem rs9 {x:D}(h:RowS tab 9 x):∃a0,x= .str a0∧a0.size≤maxLen:=by
 have hs:=h.flat1 (y:=tyD tab 9) (by kernel_rfl) rfl
 have hl:=hs.flat 9 9 [9] [x] (by kernel_rfl)
 obtain⟨a0,rfl,w0⟩:=(hl.2 0 x 9 rfl rfl).strS (x:=tyD tab 9) (by kernel_rfl) rfl
 exact⟨_,rfl,w0⟩
theorem rs24 {x:D}(h:RowS tab 24 x):∃a0,x= .agg [.list true 16 a0]∧ListS tab 45 a0:=by
 obtain⟨cs,rfl,hs⟩:=h.agg (y:=tyD tab 24) (by kernel_rfl) rfl
 have hl:=hs.flat 9 24 [22] cs (by kernel_rfl)
 obtain⟨b0,rfl⟩:=llen1 hl.1
 obtain⟨a0,e0,w0⟩:=(hl.2 0 b0 22 rfl rfl).listS (x:=tyD tab 22) (y:=tyD tab 45) (by kernel_rfl) rfl (by kernel_rfl)
 obtain rfl:b0= .list true 16 a0:=e0
 exact⟨_,rfl,w0⟩
theorem rs33 {x:D}(h:RowS tab 33 x):∃a0 a1 a2,x= .agg [.int .u8 a0,.str a1,.list true 3 a2]∧(Lit.int .u8 a0).wf=true∧a1.size≤maxLen∧ListS tab 33 a2:=by
 obtain⟨cs,rfl,hs⟩:=h.agg (y:=tyD tab 33) (by kernel_rfl) rfl
 have hl:=hs.flat 9 33 [5,9,31] cs (by kernel_rfl)
 obtain⟨b0,b1,b2,rfl⟩:=llen3 hl.1
 obtain⟨a0,rfl,w0⟩:=(hl.2 0 b0 5 rfl rfl).intS (x:=tyD tab 5) (by kernel_rfl) rfl
 obtain⟨a1,rfl,w1⟩:=(hl.2 1 b1 9 rfl rfl).strS (x:=tyD tab 9) (by kernel_rfl) rfl
 obtain⟨a2,e2,w2⟩:=(hl.2 2 b2 31 rfl rfl).listS (x:=tyD tab 31) (y:=tyD tab 33) (by kernel_rfl) rfl (by kernel_rfl)
 obtain rfl:b2= .list true 3 a2:=e2
 exact⟨_,_,_,rfl,w0,w1,w2⟩
theorem rs39 {x:D}(h:RowS tab 39 x):∃a0 a1 a2 a3 a4 a5 a6 a7,x= .agg [.int .u8 a0,.int .i64 a1,.str a2,.str a3,.str a4,.list false 1 a5,.list true 8 a6,.int .i64 a7]∧(Lit.int .u8 a0).wf=true∧(Lit.int .i64 a1).wf=true∧a2.size≤maxLen∧a3.size≤maxLen∧a4.size≤maxLen∧ListS tab 9 a5∧ListS tab 39 a6∧(Lit.int .i64 a7).wf=true:=by
 obtain⟨cs,rfl,hs⟩:=h.agg (y:=tyD tab 39) (by kernel_rfl) rfl
 have hl:=hs.flat 9 39 [5,2,9,9,9,34,37,3] cs (by kernel_rfl)
 obtain⟨b0,b1,b2,b3,b4,b5,b6,b7,rfl⟩:=llen8 hl.1
 obtain⟨a0,rfl,w0⟩:=(hl.2 0 b0 5 rfl rfl).intS (x:=tyD tab 5) (by kernel_rfl) rfl
 obtain⟨a1,rfl,w1⟩:=(hl.2 1 b1 2 rfl rfl).intS (x:=tyD tab 2) (by kernel_rfl) rfl
 obtain⟨a2,rfl,w2⟩:=(hl.2 2 b2 9 rfl rfl).strS (x:=tyD tab 9) (by kernel_rfl) rfl
 obtain⟨a3,rfl,w3⟩:=(hl.2 3 b3 9 rfl rfl).strS (x:=tyD tab 9) (by kernel_rfl) rfl
 obtain⟨a4,rfl,w4⟩:=(hl.2 4 b4 9 rfl rfl).strS (x:=tyD tab 9) (by kernel_rfl) rfl
 obtain⟨a5,e5,w5⟩:=(hl.2 5 b5 34 rfl rfl).listS (x:=tyD tab 34) (y:=tyD tab 9) (by kernel_rfl) rfl (by kernel_rfl)
 obtain rfl:b5= .list false 1 a5:=e5
 obtain⟨a6,e6,w6⟩:=(hl.2 6 b6 37 rfl rfl).listS (x:=tyD tab 37) (y:=tyD tab 39) (by kernel_rfl) rfl (by kernel_rfl)
 obtain rfl:b6= .list true 8 a6:=e6
 obtain⟨a7,rfl,w7⟩:=(hl.2 7 b7 3 rfl rfl).intS (x:=tyD tab 3) (by kernel_rfl) rfl
 exact⟨_,_,_,_,_,_,_,_,rfl,w0,w1,w2,w3,w4,w5,w6,w7⟩
theorem rs45 {x:D}(h:RowS tab 45 x):∃a0 a1 a2 a3 a4 a5 a6 a7 a8 a9 a10 a11 a12 a13 a14 a15,x= .agg [.int .u8 a0,.str a1,.list true 4 a2,.int .u8 a3,.str a4,.list true 3 a5,.list true 15 a6,.int .u8 a7,.int .i64 a8,.str a9,.str a10,.str a11,.list false 1 a12,.list true 8 a13,.int .i64 a14,.int .i64 a15]∧(Lit.int .u8 a0).wf=true∧a1.size≤maxLen∧ListS tab 74 a2∧(Lit.int .u8 a3).wf=true∧a4.size≤maxLen∧ListS tab 33 a5∧ListS tab 50 a6∧(Lit.int .u8 a7).wf=true∧(Lit.int .i64 a8).wf=true∧a9.size≤maxLen∧a10.size≤maxLen∧a11.size≤maxLen∧ListS tab 9 a12∧ListS tab 39 a13∧(Lit.int .i64 a14).wf=true∧(Lit.int .i64 a15).wf=true:=by
 obtain⟨cs,rfl,hs⟩:=h.agg (y:=tyD tab 45) (by kernel_rfl) rfl
 have hl:=hs.flat 9 45 [5,9,42,5,9,31,43,5,2,9,9,9,34,37,3,3] cs (by kernel_rfl)
 obtain⟨b0,b1,b2,b3,b4,b5,b6,b7,b8,b9,b10,b11,b12,b13,b14,b15,rfl⟩:=llen16 hl.1
 obtain⟨a0,rfl,w0⟩:=(hl.2 0 b0 5 rfl rfl).intS (x:=tyD tab 5) (by kernel_rfl) rfl
 obtain⟨a1,rfl,w1⟩:=(hl.2 1 b1 9 rfl rfl).strS (x:=tyD tab 9) (by kernel_rfl) rfl
 obtain⟨a2,e2,w2⟩:=(hl.2 2 b2 42 rfl rfl).listS (x:=tyD tab 42) (y:=tyD tab 74) (by kernel_rfl) rfl (by kernel_rfl)
 obtain rfl:b2= .list true 4 a2:=e2
 obtain⟨a3,rfl,w3⟩:=(hl.2 3 b3 5 rfl rfl).intS (x:=tyD tab 5) (by kernel_rfl) rfl
 obtain⟨a4,rfl,w4⟩:=(hl.2 4 b4 9 rfl rfl).strS (x:=tyD tab 9) (by kernel_rfl) rfl
 obtain⟨a5,e5,w5⟩:=(hl.2 5 b5 31 rfl rfl).listS (x:=tyD tab 31) (y:=tyD tab 33) (by kernel_rfl) rfl (by kernel_rfl)
 obtain rfl:b5= .list true 3 a5:=e5
 obtain⟨a6,e6,w6⟩:=(hl.2 6 b6 43 rfl rfl).listS (x:=tyD tab 43) (y:=tyD tab 50) (by kernel_rfl) rfl (by kernel_rfl)
 obtain rfl:b6= .list true 15 a6:=e6
 obtain⟨a7,rfl,w7⟩:=(hl.2 7 b7 5 rfl rfl).intS (x:=tyD tab 5) (by kernel_rfl) rfl
 obtain⟨a8,rfl,w8⟩:=(hl.2 8 b8 2 rfl rfl).intS (x:=tyD tab 2) (by kernel_rfl) rfl
 obtain⟨a9,rfl,w9⟩:=(hl.2 9 b9 9 rfl rfl).strS (x:=tyD tab 9) (by kernel_rfl) rfl
 obtain⟨a10,rfl,w10⟩:=(hl.2 10 b10 9 rfl rfl).strS (x:=tyD tab 9) (by kernel_rfl) rfl
 obtain⟨a11,rfl,w11⟩:=(hl.2 11 b11 9 rfl rfl).strS (x:=tyD tab 9) (by kernel_rfl) rfl
 obtain⟨a12,e12,w12⟩:=(hl.2 12 b12 34 rfl rfl).listS (x:=tyD tab 34) (y:=tyD tab 9) (by kernel_rfl) rfl (by kernel_rfl)
 obtain rfl:b12= .list false 1 a12:=e12
 obtain⟨a13,e13,w13⟩:=(hl.2 13 b13 37 rfl rfl).listS (x:=tyD tab 37) (y:=tyD tab 39) (by kernel_rfl) rfl (by kernel_rfl)
 obtain rfl:b13= .list true 8 a13:=e13
 obtain⟨a14,rfl,w14⟩:=(hl.2 14 b14 3 rfl rfl).intS (x:=tyD tab 3) (by kernel_rfl) rfl
 obtain⟨a15,rfl,w15⟩:=(hl.2 15 b15 3 rfl rfl).intS (x:=tyD tab 3) (by kernel_rfl) rfl
 exact⟨_,_,_,_,_,_,_,_,_,_,_,_,_,_,_,_,rfl,w0,w1,w2,w3,w4,w5,w6,w7,w8,w9,w10,w11,w12,w13,w14,w15⟩
theorem rs50 {x:D}(h:RowS tab 50 x):∃a0 a1 a2 a3 a4 a5 a6 a7 a8 a9 a10 a11 a12 a13 a14,x= .agg [.int .u8 a0,.str a1,.str a2,.list false 1 a3,.int .u8 a4,.str a5,.list true 3 a6,.int .i64 a7,.str a8,.list false 1 a9,.list true 8 a10,.list true 15 a11,.list true 15 a12,.list true 3 a13,.int .i64 a14]∧(Lit.int .u8 a0).wf=true∧a1.size≤maxLen∧a2.size≤maxLen∧ListS tab 9 a3∧(Lit.int .u8 a4).wf=true∧a5.size≤maxLen∧ListS tab 33 a6∧(Lit.int .i64 a7).wf=true∧a8.size≤maxLen∧ListS tab 9 a9∧ListS tab 39 a10∧ListS tab 50 a11∧ListS tab 50 a12∧ListS tab 95 a13∧(Lit.int .i64 a14).wf=true:=by
 obtain⟨cs,rfl,hs⟩:=h.agg (y:=tyD tab 50) (by kernel_rfl) rfl
 have hl:=hs.flat 9 50 [5,9,9,34,5,9,31,2,9,34,37,43,43,48,3] cs (by kernel_rfl)
 obtain⟨b0,b1,b2,b3,b4,b5,b6,b7,b8,b9,b10,b11,b12,b13,b14,rfl⟩:=llen15 hl.1
 obtain⟨a0,rfl,w0⟩:=(hl.2 0 b0 5 rfl rfl).intS (x:=tyD tab 5) (by kernel_rfl) rfl
 obtain⟨a1,rfl,w1⟩:=(hl.2 1 b1 9 rfl rfl).strS (x:=tyD tab 9) (by kernel_rfl) rfl
 obtain⟨a2,rfl,w2⟩:=(hl.2 2 b2 9 rfl rfl).strS (x:=tyD tab 9) (by kernel_rfl) rfl
 obtain⟨a3,e3,w3⟩:=(hl.2 3 b3 34 rfl rfl).listS (x:=tyD tab 34) (y:=tyD tab 9) (by kernel_rfl) rfl (by kernel_rfl)
 obtain rfl:b3= .list false 1 a3:=e3
 obtain⟨a4,rfl,w4⟩:=(hl.2 4 b4 5 rfl rfl).intS (x:=tyD tab 5) (by kernel_rfl) rfl
 obtain⟨a5,rfl,w5⟩:=(hl.2 5 b5 9 rfl rfl).strS (x:=tyD tab 9) (by kernel_rfl) rfl
 obtain⟨a6,e6,w6⟩:=(hl.2 6 b6 31 rfl rfl).listS (x:=tyD tab 31) (y:=tyD tab 33) (by kernel_rfl) rfl (by kernel_rfl)
 obtain rfl:b6= .list true 3 a6:=e6
 obtain⟨a7,rfl,w7⟩:=(hl.2 7 b7 2 rfl rfl).intS (x:=tyD tab 2) (by kernel_rfl) rfl
 obtain⟨a8,rfl,w8⟩:=(hl.2 8 b8 9 rfl rfl).strS (x:=tyD tab 9) (by kernel_rfl) rfl
 obtain⟨a9,e9,w9⟩:=(hl.2 9 b9 34 rfl rfl).listS (x:=tyD tab 34) (y:=tyD tab 9) (by kernel_rfl) rfl (by kernel_rfl)
 obtain rfl:b9= .list false 1 a9:=e9
 obtain⟨a10,e10,w10⟩:=(hl.2 10 b10 37 rfl rfl).listS (x:=tyD tab 37) (y:=tyD tab 39) (by kernel_rfl) rfl (by kernel_rfl)
 obtain rfl:b10= .list true 8 a10:=e10
 obtain⟨a11,e11,w11⟩:=(hl.2 11 b11 43 rfl rfl).listS (x:=tyD tab 43) (y:=tyD tab 50) (by kernel_rfl) rfl (by kernel_rfl)
 obtain rfl:b11= .list true 15 a11:=e11
 obtain⟨a12,e12,w12⟩:=(hl.2 12 b12 43 rfl rfl).listS (x:=tyD tab 43) (y:=tyD tab 50) (by kernel_rfl) rfl (by kernel_rfl)
 obtain rfl:b12= .list true 15 a12:=e12
 obtain⟨a13,e13,w13⟩:=(hl.2 13 b13 48 rfl rfl).listS (x:=tyD tab 48) (y:=tyD tab 95) (by kernel_rfl) rfl (by kernel_rfl)
 obtain rfl:b13= .list true 3 a13:=e13
 obtain⟨a14,rfl,w14⟩:=(hl.2 14 b14 3 rfl rfl).intS (x:=tyD tab 3) (by kernel_rfl) rfl
 exact⟨_,_,_,_,_,_,_,_,_,_,_,_,_,_,_,rfl,w0,w1,w2,w3,w4,w5,w6,w7,w8,w9,w10,w11,w12,w13,w14⟩
theorem rs74 {x:D}(h:RowS tab 74 x):∃a0 a1 a2 a3,x= .agg [.str a0,.int .u8 a1,.str a2,.list true 3 a3]∧a0.size≤maxLen∧(Lit.int .u8 a1).wf=true∧a2.size≤maxLen∧ListS tab 33 a3:=by
 obtain⟨cs,rfl,hs⟩:=h.agg (y:=tyD tab 74) (by kernel_rfl) rfl
 have hl:=hs.flat 9 74 [9,5,9,31] cs (by kernel_rfl)
 obtain⟨b0,b1,b2,b3,rfl⟩:=llen4 hl.1
 obtain⟨a0,rfl,w0⟩:=(hl.2 0 b0 9 rfl rfl).strS (x:=tyD tab 9) (by kernel_rfl) rfl
 obtain⟨a1,rfl,w1⟩:=(hl.2 1 b1 5 rfl rfl).intS (x:=tyD tab 5) (by kernel_rfl) rfl
 obtain⟨a2,rfl,w2⟩:=(hl.2 2 b2 9 rfl rfl).strS (x:=tyD tab 9) (by kernel_rfl) rfl
 obtain⟨a3,e3,w3⟩:=(hl.2 3 b3 31 rfl rfl).listS (x:=tyD tab 31) (y:=tyD tab 33) (by kernel_rfl) rfl (by kernel_rfl)
 obtain rfl:b3= .list true 3 a3:=e3
 exact⟨_,_,_,_,rfl,w0,w1,w2,w3⟩
theorem rs95 {x:D}(h:RowS tab 95 x):∃a0 a1 a2,x= .agg [.str a0,.str a1,.list true 15 a2]∧a0.size≤maxLen∧a1.size≤maxLen∧ListS tab 50 a2:=by
 obtain⟨cs,rfl,hs⟩:=h.agg (y:=tyD tab 95) (by kernel_rfl) rfl
 have hl:=hs.flat 9 95 [9,9,43] cs (by kernel_rfl)
 obtain⟨b0,b1,b2,rfl⟩:=llen3 hl.1
 obtain⟨a0,rfl,w0⟩:=(hl.2 0 b0 9 rfl rfl).strS (x:=tyD tab 9) (by kernel_rfl) rfl
 obtain⟨a1,rfl,w1⟩:=(hl.2 1 b1 9 rfl rfl).strS (x:=tyD tab 9) (by kernel_rfl) rfl
 obtain⟨a2,e2,w2⟩:=(hl.2 2 b2 43 rfl rfl).listS (x:=tyD tab 43) (y:=tyD tab 50) (by kernel_rfl) rfl (by kernel_rfl)
 obtain rfl:b2= .list true 15 a2:=e2
 exact⟨_,_,_,rfl,w0,w1,w2⟩
end Go.Proofs.YtjmofeakajdbiaaGreatDoor
end
set_option linter.unusedVariables false
noncomputable section
namespace Go.Proofs.YtjmofeakajdbiaaGreatDoor
open Go Go.AM
theorem ilt {i N:Nat}(h:i<N):(i:Int)<(N:Int):=Int.ofNat_lt.2 h
end Go.Proofs.YtjmofeakajdbiaaGreatDoor
set_option linter.unusedVariables false
noncomputable section
namespace Go.Proofs.YtjmofeakajdbiaaGreatDoor
open Go Go.AM
def L132_1:Nat->Int->Bool->Option (BA)
 | 0,_,_=>none
 | n+1,z1,b3=>
  (if b3=true then some ByteArray.empty else getF ([.str ByteArray.empty,.str k_i0,.str k_b0,.str k_0,.str k_p0,.str k_p0,.str k_p0,.str k_1,.str k_1,.str k_2,.str k_2,.str k_2,.str k_2,.str k_2,.str k_2,.str k_2,.str k_2,.str k_2,.str k_n6,.str k_tf6,.str k_tv9,.str k_1,.str k_1,.str k_1,.str k_p0,.str k_p1,.str k_1,.str k_1,.str k_p0,.str k_1,.str k_1,.str k_1,.str k_p0,.str k_p1,.str k_p1,.str k_p1,.str k_p0]) z1 fun x4=>ds_str x4 fun s5=>some s5)
def F132 (n:Nat) (z1:Int):Option (BA):=
 letF (IntKind.wrap .i64 z1) fun z2=>(if (37:Int)<=z2 then L132_1 n z1 true else L132_1 n z1 false)
def L133_2:Nat->BA->Int->Bool->Option (Bool)
 | 0,_,_,_=>none
 | n+1,s1,z2,b7=>
  (if b7=true then (if z2<=(1:Int)then some true else some false)else szF s1 fun z8=>letF (IntKind.wrap .i64 (z8 - 1)) fun z9=>atF s1 z9 fun z10=>letF (IntKind.wrap .u8 (z10 - 48)) fun z11=>letF (IntKind.wrap .i64 z11) fun z12=>(if z2=z12 then some true else some false))
def L133_1:Nat->BA->Int->Int->Bool->Option (Bool)
 | 0,_,_,_,_=>none
 | n+1,s1,z2,z5,b6=>
  (if b6=true then (if z2<=(6:Int)then some true else some false)else (if z5=(57:Int)then L133_2 n s1 z2 true else L133_2 n s1 z2 false))
def F133 (n:Nat) (s1:BA) (z2:Int):Option (Bool):=
 szF s1 fun z3=>letF (IntKind.wrap .i64 (z3 - 1)) fun z4=>atF s1 z4 fun z5=>(if z5=(54:Int)then L133_1 n s1 z2 z5 true else L133_1 n s1 z2 z5 false)
mutual
def L134_1:Nat->BA->Int->Int->Option (Bool)
 | 0,_,_,_=>none
 | n+1,s1,z2,z3=>
  szF s1 fun z4=>(if z3<z4 then L134_2 n s1 z2 z3 true else L134_2 n s1 z2 z3 false)
def L134_2:Nat->BA->Int->Int->Bool->Option (Bool)
 | 0,_,_,_,_=>none
 | n+1,s1,z2,z3,b5=>
  (if b5=true then atF s1 z3 fun z6=>(if z6=z2 then L134_3 n s1 z2 z3 true else L134_3 n s1 z2 z3 false)else some false)
def L134_3:Nat->BA->Int->Int->Bool->Option (Bool)
 | 0,_,_,_,_=>none
 | n+1,s1,z2,z3,b7=>
  (if b7=true then some true else letF (IntKind.wrap .i64 (z3+1)) fun z8=>L134_1 n s1 z2 z8)
end
def F134 (n:Nat) (s1:BA) (z2:Int):Option (Bool):=
 L134_1 n s1 z2 (0:Int)
mutual
def L135_2:Nat->LD->Int->Option (Bool)
 | 0,_,_=>none
 | n+1,l2,z7=>
  lenF l2 fun z8=>(if z7<z8 then L135_3 n l2 z7 true else L135_3 n l2 z7 false)
def L135_3:Nat->LD->Int->Bool->Option (Bool)
 | 0,_,_,_=>none
 | n+1,l2,z7,b9=>
  (if b9=true then getF l2 z7 fun x10=>ds_str x10 fun s11=>(if s11=k__ then L135_4 n l2 z7 false else getF l2 z7 fun x12=>ds_str x12 fun s13=>bO1 (F81 n s13) fun b14=>letB (!b14) fun b15=>L135_4 n l2 z7 b15)else some true)
def L135_4:Nat->LD->Int->Bool->Option (Bool)
 | 0,_,_,_=>none
 | n+1,l2,z7,b16=>
  (if b16=true then some false else letF (IntKind.wrap .i64 (z7+1)) fun z17=>L135_2 n l2 z17)
end
def L135_1:Nat->LD->Bool->Option (Bool)
 | 0,_,_=>none
 | n+1,l2,b6=>
  (if b6=true then some false else L135_2 n l2 (0:Int))
def F135 (n:Nat) (s1:BA) (l2:LD):Option (Bool):=
 bO1 (F81 n s1) fun b3=>letB (!b3) fun b4=>(if b4=true then L135_1 n l2 true else lenF l2 fun z5=>(if (40:Int)<z5 then L135_1 n l2 true else L135_1 n l2 false))
mutual
def L136_2:Nat->LD->Int->Option (Bool)
 | 0,_,_=>none
 | n+1,l6,z12=>
  lenF l6 fun z13=>(if z12<z13 then L136_3 n l6 z12 true else L136_3 n l6 z12 false)
def L136_3:Nat->LD->Int->Bool->Option (Bool)
 | 0,_,_,_=>none
 | n+1,l6,z12,b14=>
  (if b14=true then getF l6 z12 fun x15=>ds_str x15 fun s16=>bO1 (F81 n s16) fun b17=>letB (!b17) fun b18=>(if b18=true then some false else letF (IntKind.wrap .i64 (z12+1)) fun z19=>L136_2 n l6 z19)else some true)
end
def L136_1:Nat->LD->Bool->Option (Bool)
 | 0,_,_=>none
 | n+1,l6,b11=>
  (if b11=true then some false else L136_2 n l6 (0:Int))
def F136 (n:Nat) (z1:Int) (z2:Int) (s3:BA) (s4:BA) (s5:BA) (l6:LD) (l7:LD) (z8:Int):Option (Bool):=
 (if s5=ByteArray.empty then lenF l6 fun z9=>lenF l7 fun z10=>(if z9=z10 then L136_1 n l6 false else L136_1 n l6 true)else L136_1 n l6 true)
def F83 (n:Nat) (z1:Int) (z2:Int) (s3:BA) (s4:BA) (s5:BA) (l6:LD) (l7:LD) (z8:Int):Option (Bool):=
 (if z1=(5:Int)then some true else (if z1=(6:Int)then some true else some false))
mutual
def L84_1:Nat->Int->Int->BA->BA->BA->LD->LD->Int->Int->BA->Bool->Option (Bool)
 | 0,_,_,_,_,_,_,_,_,_,_,_=>none
 | n+1,z1,z2,s3,s4,s5,l6,l7,z8,z9,s10,b14=>
  (if b14=true then some false else bO1 (F134 n s10 (105:Int)) fun b15=>(if b15=true then (if z2<(0:Int)then L84_2 n z1 z2 s3 s4 s5 l6 l7 z8 z9 s10 true else L84_2 n z1 z2 s3 s4 s5 l6 l7 z8 z9 s10 false)else bO1 (F134 n s10 (98:Int)) fun b17=>(if b17=true then (if z2=(0:Int)then L84_3 n z1 z2 s3 s4 s5 l6 l7 z8 z9 s10 false else (if z2=(1:Int)then L84_3 n z1 z2 s3 s4 s5 l6 l7 z8 z9 s10 false else L84_3 n z1 z2 s3 s4 s5 l6 l7 z8 z9 s10 true))else (if z2=(0:Int)then L84_4 n z1 z2 s3 s4 s5 l6 l7 z8 z9 s10 false else L84_4 n z1 z2 s3 s4 s5 l6 l7 z8 z9 s10 true))))
def L84_2:Nat->Int->Int->BA->BA->BA->LD->LD->Int->Int->BA->Bool->Option (Bool)
 | 0,_,_,_,_,_,_,_,_,_,_,_=>none
 | n+1,z1,z2,s3,s4,s5,l6,l7,z8,z9,s10,b16=>
  (if b16=true then some false else L84_5 n z1 z2 s3 s4 s5 l6 l7 z8 z9 s10)
def L84_3:Nat->Int->Int->BA->BA->BA->LD->LD->Int->Int->BA->Bool->Option (Bool)
 | 0,_,_,_,_,_,_,_,_,_,_,_=>none
 | n+1,z1,z2,s3,s4,s5,l6,l7,z8,z9,s10,b18=>
  (if b18=true then some false else L84_5 n z1 z2 s3 s4 s5 l6 l7 z8 z9 s10)
def L84_4:Nat->Int->Int->BA->BA->BA->LD->LD->Int->Int->BA->Bool->Option (Bool)
 | 0,_,_,_,_,_,_,_,_,_,_,_=>none
 | n+1,z1,z2,s3,s4,s5,l6,l7,z8,z9,s10,b19=>
  (if b19=true then some false else L84_5 n z1 z2 s3 s4 s5 l6 l7 z8 z9 s10)
def L84_5:Nat->Int->Int->BA->BA->BA->LD->LD->Int->Int->BA->Option (Bool)
 | 0,_,_,_,_,_,_,_,_,_,_=>none
 | n+1,z1,z2,s3,s4,s5,l6,l7,z8,z9,s10=>
  bO1 (F134 n s10 (112:Int)) fun b20=>(if b20=true then bO1 (F135 n s5 l6) fun b21=>letB (!b21) fun b22=>(if b22=true then some false else L84_7 n z1 s3 s4 l7 z9 s10)else bO1 (F134 n s10 (102:Int)) fun b23=>(if b23=true then bO1 (F136 n z1 z2 s3 s4 s5 l6 l7 z8) fun b24=>letB (!b24) fun b25=>(if b25=true then some false else L84_7 n z1 s3 s4 l7 z9 s10)else (if s5=ByteArray.empty then lenF l6 fun z26=>(if (0:Int)<z26 then L84_6 n z1 s3 s4 l7 z9 s10 true else L84_6 n z1 s3 s4 l7 z9 s10 false)else L84_6 n z1 s3 s4 l7 z9 s10 true)))
def L84_6:Nat->Int->BA->BA->LD->Int->BA->Bool->Option (Bool)
 | 0,_,_,_,_,_,_,_=>none
 | n+1,z1,s3,s4,l7,z9,s10,b27=>
  (if b27=true then some false else L84_7 n z1 s3 s4 l7 z9 s10)
def L84_7:Nat->Int->BA->BA->LD->Int->BA->Option (Bool)
 | 0,_,_,_,_,_,_=>none
 | n+1,z1,s3,s4,l7,z9,s10=>
  bO1 (F134 n s10 (110:Int)) fun b28=>(if b28=true then bO1 (F81 n s3) fun b29=>letB (!b29) fun b30=>(if b30=true then L84_8 n z1 s4 l7 z9 s10 true else bO1 (F134 n s10 (116:Int)) fun b31=>(if b31=true then bO1 (F78 n s3) fun b32=>letB (!b32) fun b33=>(if b33=true then L84_8 n z1 s4 l7 z9 s10 true else bO1 (F134 n s10 (110:Int)) fun b34=>letB (!b34) fun b35=>(if b35=true then bO1 (F134 n s10 (116:Int)) fun b36=>letB (!b36) fun b37=>(if b37=true then (if s3=ByteArray.empty then L84_8 n z1 s4 l7 z9 s10 false else L84_8 n z1 s4 l7 z9 s10 true)else L84_8 n z1 s4 l7 z9 s10 false)else L84_8 n z1 s4 l7 z9 s10 false))else bO1 (F134 n s10 (110:Int)) fun b38=>letB (!b38) fun b39=>(if b39=true then bO1 (F134 n s10 (116:Int)) fun b40=>letB (!b40) fun b41=>(if b41=true then (if s3=ByteArray.empty then L84_8 n z1 s4 l7 z9 s10 false else L84_8 n z1 s4 l7 z9 s10 true)else L84_8 n z1 s4 l7 z9 s10 false)else L84_8 n z1 s4 l7 z9 s10 false)))else bO1 (F134 n s10 (116:Int)) fun b42=>(if b42=true then bO1 (F78 n s3) fun b43=>letB (!b43) fun b44=>(if b44=true then L84_8 n z1 s4 l7 z9 s10 true else bO1 (F134 n s10 (110:Int)) fun b45=>letB (!b45) fun b46=>(if b46=true then bO1 (F134 n s10 (116:Int)) fun b47=>letB (!b47) fun b48=>(if b48=true then (if s3=ByteArray.empty then L84_8 n z1 s4 l7 z9 s10 false else L84_8 n z1 s4 l7 z9 s10 true)else L84_8 n z1 s4 l7 z9 s10 false)else L84_8 n z1 s4 l7 z9 s10 false))else bO1 (F134 n s10 (110:Int)) fun b49=>letB (!b49) fun b50=>(if b50=true then bO1 (F134 n s10 (116:Int)) fun b51=>letB (!b51) fun b52=>(if b52=true then (if s3=ByteArray.empty then L84_8 n z1 s4 l7 z9 s10 false else L84_8 n z1 s4 l7 z9 s10 true)else L84_8 n z1 s4 l7 z9 s10 false)else L84_8 n z1 s4 l7 z9 s10 false)))
def L84_8:Nat->Int->BA->LD->Int->BA->Bool->Option (Bool)
 | 0,_,_,_,_,_,_=>none
 | n+1,z1,s4,l7,z9,s10,b53=>
  (if b53=true then some false else bO1 (F134 n s10 (118:Int)) fun b54=>(if b54=true then bO1 (F78 n s4) fun b55=>letB (!b55) fun b56=>(if b56=true then L84_9 n z1 l7 z9 true else bO1 (F134 n s10 (118:Int)) fun b57=>letB (!b57) fun b58=>(if b58=true then (if s4=ByteArray.empty then L84_9 n z1 l7 z9 false else L84_9 n z1 l7 z9 true)else L84_9 n z1 l7 z9 false))else bO1 (F134 n s10 (118:Int)) fun b59=>letB (!b59) fun b60=>(if b60=true then (if s4=ByteArray.empty then L84_9 n z1 l7 z9 false else L84_9 n z1 l7 z9 true)else L84_9 n z1 l7 z9 false)))
def L84_9:Nat->Int->LD->Int->Bool->Option (Bool)
 | 0,_,_,_,_=>none
 | n+1,z1,l7,z9,b61=>
  (if b61=true then some false else L84_10 n z1 l7 z9 (0:Int))
def L84_10:Nat->Int->LD->Int->Int->Option (Bool)
 | 0,_,_,_,_=>none
 | n+1,z1,l7,z9,z62=>
  lenF l7 fun z63=>(if z62<z63 then L84_11 n z1 l7 z9 z62 true else L84_11 n z1 l7 z9 z62 false)
def L84_11:Nat->Int->LD->Int->Int->Bool->Option (Bool)
 | 0,_,_,_,_,_=>none
 | n+1,z1,l7,z9,z62,b64=>
  (if b64=true then getF l7 z62 fun x65=>ds_t39 x65 fun z66 z67 s68 s69 s70 l71 l72 z73=>bO1 (F83 n z66 z67 s68 s69 s70 l71 l72 z73) fun b74=>(if b74=true then (if z1=(18:Int)then getF l7 z62 fun x75=>ds_t39 x75 fun z76 z77 s78 s79 s80 l81 l82 z83=>letF (IntKind.wrap .i64 (z9 - 1)) fun z84=>bO1 (F84 n z76 z77 s78 s79 s80 l81 l82 z83 z84) fun b85=>letB (!b85) fun b86=>L84_12 n z1 l7 z9 z62 b86 else L84_12 n z1 l7 z9 z62 true)else getF l7 z62 fun x87=>ds_t39 x87 fun z88 z89 s90 s91 s92 l93 l94 z95=>letF (IntKind.wrap .i64 (z9 - 1)) fun z96=>bO1 (F84 n z88 z89 s90 s91 s92 l93 l94 z95 z96) fun b97=>letB (!b97) fun b98=>L84_12 n z1 l7 z9 z62 b98)else some true)
def L84_12:Nat->Int->LD->Int->Int->Bool->Option (Bool)
 | 0,_,_,_,_,_=>none
 | n+1,z1,l7,z9,z62,b99=>
  (if b99=true then some false else letF (IntKind.wrap .i64 (z62+1)) fun z100=>L84_10 n z1 l7 z9 z100)
def F84:Nat->Int->Int->BA->BA->BA->LD->LD->Int->Int->Option (Bool)
 | 0,_,_,_,_,_,_,_,_,_=>none
 | n+1,z1,z2,s3,s4,s5,l6,l7,z8,z9=>
  bO1 (F132 n z1) fun s10=>(if z9<(1:Int)then L84_1 n z1 z2 s3 s4 s5 l6 l7 z8 z9 s10 true else (if s10=ByteArray.empty then L84_1 n z1 z2 s3 s4 s5 l6 l7 z8 z9 s10 true else lenF l7 fun z11=>bO1 (F133 n s10 z11) fun b12=>letB (!b12) fun b13=>L84_1 n z1 z2 s3 s4 s5 l6 l7 z8 z9 s10 b13))
end
end Go.Proofs.YtjmofeakajdbiaaGreatDoor
end
set_option linter.unusedVariables false
noncomputable section
namespace Go.Proofs.YtjmofeakajdbiaaGreatDoor
open Go Go.AM
def stB:D→Bool
 | .str s=>decide (s=k__) || nm 97 122 s
 | _=>false
def nmB:D→Bool
 | .str s=>nm 97 122 s
 | _=>false
def plB (s:ByteArray) (l:List D):Bool:=nm 97 122 s&&(l.all stB&&decide (l.length≤40))
theorem all_drop {L:List D}{i:Nat}{x:D}(h:L[i]?=some x) (p:D→Bool):(L.drop i).all p=(p x&&(L.drop (i+1)).all p):=by
 obtain⟨hi,rfl⟩:=List.getElem?_eq_some_iff.1 h
 rw[List.drop_eq_getElem_cons hi,List.all_cons]
theorem ev45 {s:ByteArray}(hs:s.size≤maxLen):Ev (fun n=>F94 n s) (stB (.str s)):=by
 unfold F94 stB
 by_cases h:s=k__
 ·simp only[if_pos h,decide_eq_true h,Bool.true_or];exact Ev.ret
 ·simp only[if_neg h,decide_eq_false h,Bool.false_or];exact Ev.bO1 (ev13 hs) Ev.ret
theorem ev44 {L:List D}(hL:ListS tab 9 L) (m:Nat):∃r,Ev (fun n=>F93 n L (m:Int)) r∧r=(L.all stB&&decide (L.length≤m))∨(m<L.length∧Ev (fun n=>F93 n L (m:Int)) false):=by
 by_cases hm:L.length≤m
 ·have loop:∀i,i≤L.length→Ev (fun n=>L93_1 n L (m:Int) (i:Int)) ((L.drop i).all stB):=by
   refine down L.length (Ev.succ ?_) (fun i hi ih=>?_)
   ·simp only[L93_1,lenF,Int.lt_irrefl,if_false,List.drop_length]
    exact Ev.succ (by simp only[L93_2,Bool.false_eq_true,if_false,lenF,if_pos (show (L.length:Int)≤(m:Int)by omega)];exact Ev.ret)
   ·obtain⟨x,hx,_,hr⟩:=hL.get hi
    obtain⟨s,rfl,hs⟩:=rs9 hr
    rw[all_drop hx]
    refine Ev.succ ?_
    simp only[L93_1,lenF,if_pos (show (i:Int)<(L.length:Int)by omega),if_pos (show (i:Int)<(m:Int)by omega)]
    refine Ev.succ ?_
    simp only[L93_2,if_true,getF_nat hx,ds_str]
    refine Ev.bO1 (ev45 hs) ?_
    cases stB (.str s)
    ·simp only[letB,Bool.not_false,if_true,Bool.false_and];exact Ev.ret
    ·simp only[letB,Bool.not_true,Bool.false_eq_true,if_false,letF,wrap_succ hi hL.1,Bool.true_and];exact ih
  refine⟨_,.inl ⟨loop 0 (Nat.zero_le _),?_⟩⟩
  rw[decide_eq_true hm,Bool.and_true];rfl
 ·have loop:∀i,i≤m→Ev (fun n=>L93_1 n L (m:Int) (i:Int)) false:=by
   refine down m (Ev.succ ?_) (fun i hi ih=>?_)
   ·simp only[L93_1,lenF,if_pos (show (m:Int)<(L.length:Int)by omega),Int.lt_irrefl,if_false]
    exact Ev.succ (by simp only[L93_2,Bool.false_eq_true,if_false,lenF,if_neg (show ¬(L.length:Int)≤(m:Int)by omega)];exact Ev.ret)
   ·obtain⟨x,hx,_,hr⟩:=hL.get (show i<L.length by omega)
    obtain⟨s,rfl,hs⟩:=rs9 hr
    refine Ev.succ ?_
    simp only[L93_1,lenF,if_pos (show (i:Int)<(L.length:Int)by omega),if_pos (show (i:Int)<(m:Int)by omega)]
    refine Ev.succ ?_
    simp only[L93_2,if_true,getF_nat hx,ds_str]
    refine Ev.bO1 (ev45 hs) ?_
    cases stB (.str s)
    ·simp only[letB,Bool.not_false,if_true];exact Ev.ret
    ·simp only[letB,Bool.not_true,Bool.false_eq_true,if_false,letF,wrap_succ (show i<L.length by omega) hL.1];exact ih
  exact⟨false,.inr ⟨by omega,loop 0 (Nat.zero_le _)⟩⟩
theorem ev44' {L:List D}(hL:ListS tab 9 L) (m:Nat):Ev (fun n=>F93 n L (m:Int)) (L.all stB&&decide (L.length≤m)):=by
 obtain⟨r,⟨h1,h2⟩ | ⟨h1,h2⟩⟩:=ev44 hL m
 ·rw[←h2];exact h1
 ·rw[decide_eq_false (by omega),Bool.and_false];exact h2
theorem ev24 {s:ByteArray}(hs:s.size≤maxLen) {l:List D}(hl:ListS tab 9 l):Ev (fun n=>F52 n s l) (plB s l):=by
 unfold F52 plB
 refine Ev.bO1 (ev13 hs) ?_
 cases nm 97 122 s
 ·simp only[Bool.false_eq_true,if_false,Bool.false_and];exact Ev.ret
 ·simp only[if_true,Bool.true_and];exact Ev.bO1 (ev44' hl 40) Ev.ret
theorem ev25 {s:ByteArray}(hs:s.size≤maxLen) {l:List D}(hl:ListS tab 9 l):Ev (fun n=>F135 n s l) (plB s l):=by
 have loop:∀i,i≤l.length→Ev (fun n=>L135_2 n l (i:Int)) ((l.drop i).all stB):=by
  refine down l.length (Ev.succ ?_) (fun i hi ih=>?_)
  ·simp only[L135_2,lenF,Int.lt_irrefl,if_false,List.drop_length]
   exact Ev.succ (by simp only[L135_3,Bool.false_eq_true,if_false];exact Ev.ret)
  ·obtain⟨x,hx,_,hr⟩:=hl.get hi
   obtain⟨s,rfl,hs⟩:=rs9 hr
   rw[all_drop hx]
   refine Ev.succ ?_
   simp only[L135_2,lenF,if_pos (show (i:Int)<(l.length:Int)by omega)]
   refine Ev.succ ?_
   simp only[L135_3,if_true,getF_nat hx,ds_str,stB]
   have fin:∀b,Ev (fun n=>L135_4 n l (i:Int) (!b)) (b&&(l.drop (i+1)).all stB):=by
    intro b
    refine Ev.succ ?_
    cases b
    ·simp only[L135_4,Bool.not_false,if_true,Bool.false_and];exact Ev.ret
    ·simp only[L135_4,Bool.not_true,Bool.false_eq_true,if_false,letF,wrap_succ hi hl.1,Bool.true_and];exact ih
   by_cases h:s=k__
   ·simp only[if_pos h,decide_eq_true h,Bool.true_or];exact fin true
   ·simp only[if_neg h,decide_eq_false h,Bool.false_or]
    exact Ev.bO1 (ev14 hs) (by simp only[letB];exact fin _)
 unfold F135 plB
 refine Ev.bO1 (ev14 hs) ?_
 have no:Ev (fun n=>L135_1 n l true) false:=Ev.succ (by simp only[L135_1,if_true];exact Ev.ret)
 cases nm 97 122 s
 ·simp only[letB,Bool.not_false,if_true,Bool.false_and];exact no
 ·simp only[letB,Bool.not_true,Bool.false_eq_true,if_false,lenF,Bool.true_and]
  by_cases h:40<(l.length:Int)
  ·simp only[if_pos h,decide_eq_false (show ¬l.length≤40 by omega),Bool.and_false];exact no
  ·simp only[if_neg h,decide_eq_true (show l.length≤40 by omega),Bool.and_true]
   exact Ev.succ (by simp only[L135_1,Bool.false_eq_true,if_false];exact loop 0 (Nat.zero_le _))
structure Good (z1:Int) (f:ByteArray) (hp:Bool) (least most:Int):Prop where
 f40:Ev (fun n=>F132 n z1) f
 f58:Ev (fun n=>F95 n z1) (hp,least,most,true)
 ne:¬f=ByteArray.empty
 many:∀n:Int,0≤n→Ev (fun k=>F133 k f n) (decide (least≤n)&&decide (n≤most))
 hi:Ev (fun n=>F134 n f 105) (decide (z1=1))
 hb:Ev (fun n=>F134 n f 98) (decide (z1=2))
 h112:Ev (fun n=>F134 n f 112) hp
 hf:Ev (fun n=>F134 n f 102) (decide (z1=19))
 hn:Ev (fun n=>F134 n f 110) (decide (z1=18))
 ht:Ev (fun n=>F134 n f 116) (decide (z1=19∨z1=20))
 hv:Ev (fun n=>F134 n f 118) (decide (z1=20))
 np:z1=18∨z1=19∨z1=20→hp=false
 most6:0≤least∧least≤most∧most≤6
end Go.Proofs.YtjmofeakajdbiaaGreatDoor
end
namespace Go.AM
open Go
theorem Shape.row {ti:Types}{t:TypeId}{cs:List D}{y:TI}(h:Shape ti t cs) (hy:ti t=some y) (h1:rowD y.desc=true):cs.length=y.size∧∀c∈cs,c.isAgg=false:=by
 cases h with
 | struct ds h hd hl hg hr=>rw[hy]at h;cases h;exact⟨hl,hg⟩
 | bool b h hd=>rw[hy]at h;cases h;rw[hd]at h1;cases h1
 | int n h hd=>rw[hy]at h;cases h;rw[hd]at h1;cases h1
 | str s h hd=>rw[hy]at h;cases h;rw[hd]at h1;cases h1
 | slice rows h hd=>rw[hy]at h;cases h;rw[hd]at h1;cases h1
theorem Shape.cell {ti:Types}{t:TypeId}{cs:List D}{y:TI}(h:Shape ti t cs) (hy:ti t=some y) (h1:rowD y.desc=false):∃c,cs=[c]∧c.isAgg=false:=by
 cases h with
 | struct ds h hd hl hg hr=>rw[hy]at h;cases h;rw[hd]at h1;cases h1
 | bool b h hd=>exact⟨_,rfl,rfl⟩
 | int n h hd=>exact⟨_,rfl,rfl⟩
 | str s h hd=>exact⟨_,rfl,rfl⟩
 | slice rows h hd=>exact⟨_,rfl,rfl⟩
theorem RowS.fits {ti:Types}{e:TypeId}{r:D}{y:TI}(h1:TIone ti) (h:RowS ti e r) (hy:ti e=some y):r.fits (rowD y.desc) y.size:=by
 have ha:=h.2 y hy
 cases hr:rowD y.desc with
 | true=>
  obtain⟨q1,q2⟩:=h.1.row hy hr
  exact⟨by rw[ha,hr],q1,q2⟩
 | false=>
  obtain⟨c,q1,q2⟩:=h.1.cell hy hr
  exact⟨by rw[ha,hr],by rw[q1,h1 e y hy hr];rfl,by rw[q1];simpa using q2⟩
theorem ListS.nil {ti:Types}{e:TypeId}:ListS ti e []:=⟨Nat.zero_le _,by simp⟩
theorem ListS.cons {ti:Types}{e:TypeId}{x:D}{L:List D}(hx:RowS ti e x) (h:ListS ti e L) (hl:L.length+1≤maxLen):ListS ti e (x::L):=⟨by simpa using hl,fun y hy=>by
 rcases List.mem_cons.1 hy with rfl | hy
 ·exact hx
 ·exact h.2 y hy⟩
theorem ListS.app {ti:Types}{e:TypeId}{L M:List D}(h:ListS ti e L) (h':ListS ti e M) (hl:L.length+M.length≤maxLen):ListS ti e (L++M):=⟨by simpa using hl,fun y hy=>by
 rcases List.mem_append.1 hy with hy | hy
 ·exact h.2 y hy
 ·exact h'.2 y hy⟩
theorem ListS.one {ti:Types}{e:TypeId}{x:D}(hx:RowS ti e x):ListS ti e [x]:=.cons hx .nil (by simp[maxLen])
theorem ListS.set {ti:Types}{e:TypeId}{L:List D}(h:ListS ti e L) (i:Nat) {x:D}(hx:RowS ti e x):ListS ti e (L.set i x):=⟨by simpa using h.1,fun y hy=>by
 rcases List.mem_or_eq_of_mem_set hy with hy | rfl
 ·exact h.2 y hy
 ·exact hx⟩
theorem ListS.take {ti:Types}{e:TypeId}{L:List D}(h:ListS ti e L) (i:Nat):ListS ti e (L.take i):=⟨by have:=h.1;simp;omega,fun x hx=>h.2 x (List.mem_of_mem_take hx)⟩
theorem ListS.drop {ti:Types}{e:TypeId}{L:List D}(h:ListS ti e L) (i:Nat):ListS ti e (L.drop i):=⟨by have:=h.1;simp;omega,fun x hx=>h.2 x (List.mem_of_mem_drop hx)⟩
theorem Ev.bO3 {A1 A2 A3 γ:Type}{A:Nat→Option (A1×A2×A3)}{a1:A1}{a2:A2}{a3:A3}{k:Nat→A1→A2→A3→Option γ}{r:γ}(ha:Ev A (a1,a2,a3)) (hk:Ev (fun n=>k n a1 a2 a3) r):Ev (fun n=>bO3 (A n) (k n)) r:=by
 obtain⟨N,ha⟩:=ha
 obtain⟨M,hk⟩:=hk
 refine⟨N+M,fun n hn=>?_⟩
 show Go.AM.bO3 (A n) (k n)=some r
 rw[ha n (by omega)]
 exact hk n (by omega)
theorem Ev.bO4 {A1 A2 A3 A4 γ:Type}{A:Nat→Option (A1×A2×A3×A4)}{a1:A1}{a2:A2}{a3:A3}{a4:A4}{k:Nat→A1→A2→A3→A4→Option γ}{r:γ}(ha:Ev A (a1,a2,a3,a4)) (hk:Ev (fun n=>k n a1 a2 a3 a4) r):Ev (fun n=>bO4 (A n) (k n)) r:=by
 obtain⟨N,ha⟩:=ha
 obtain⟨M,hk⟩:=hk
 refine⟨N+M,fun n hn=>?_⟩
 show Go.AM.bO4 (A n) (k n)=some r
 rw[ha n (by omega)]
 exact hk n (by omega)
theorem Ev.bO7 {A1 A2 A3 A4 A5 A6 A7 γ:Type}{A:Nat→Option (A1×A2×A3×A4×A5×A6×A7)}{a1:A1}{a2:A2}{a3:A3}{a4:A4}{a5:A5}{a6:A6}{a7:A7}{k:Nat→A1→A2→A3→A4→A5→A6→A7→Option γ}{r:γ}(ha:Ev A (a1,a2,a3,a4,a5,a6,a7)) (hk:Ev (fun n=>k n a1 a2 a3 a4 a5 a6 a7) r):Ev (fun n=>bO7 (A n) (k n)) r:=by
 obtain⟨N,ha⟩:=ha
 obtain⟨M,hk⟩:=hk
 refine⟨N+M,fun n hn=>?_⟩
 show Go.AM.bO7 (A n) (k n)=some r
 rw[ha n (by omega)]
 exact hk n (by omega)
theorem Ev.bO10 {A1 A2 A3 A4 A5 A6 A7 A8 A9 A10 γ:Type}{A:Nat→Option (A1×A2×A3×A4×A5×A6×A7×A8×A9×A10)}{a1:A1}{a2:A2}{a3:A3}{a4:A4}{a5:A5}{a6:A6}{a7:A7}{a8:A8}{a9:A9}{a10:A10}{k:Nat→A1→A2→A3→A4→A5→A6→A7→A8→A9→A10→Option γ}{r:γ}(ha:Ev A (a1,a2,a3,a4,a5,a6,a7,a8,a9,a10)) (hk:Ev (fun n=>k n a1 a2 a3 a4 a5 a6 a7 a8 a9 a10) r):Ev (fun n=>bO10 (A n) (k n)) r:=by
 obtain⟨N,ha⟩:=ha
 obtain⟨M,hk⟩:=hk
 refine⟨N+M,fun n hn=>?_⟩
 show Go.AM.bO10 (A n) (k n)=some r
 rw[ha n (by omega)]
 exact hk n (by omega)
theorem Ev.bO14 {A1 A2 A3 A4 A5 A6 A7 A8 A9 A10 A11 A12 A13 A14 γ:Type}{A:Nat→Option (A1×A2×A3×A4×A5×A6×A7×A8×A9×A10×A11×A12×A13×A14)}{a1:A1}{a2:A2}{a3:A3}{a4:A4}{a5:A5}{a6:A6}{a7:A7}{a8:A8}{a9:A9}{a10:A10}{a11:A11}{a12:A12}{a13:A13}{a14:A14}{k:Nat→A1→A2→A3→A4→A5→A6→A7→A8→A9→A10→A11→A12→A13→A14→Option γ}{r:γ}(ha:Ev A (a1,a2,a3,a4,a5,a6,a7,a8,a9,a10,a11,a12,a13,a14)) (hk:Ev (fun n=>k n a1 a2 a3 a4 a5 a6 a7 a8 a9 a10 a11 a12 a13 a14) r):Ev (fun n=>bO14 (A n) (k n)) r:=by
 obtain⟨N,ha⟩:=ha
 obtain⟨M,hk⟩:=hk
 refine⟨N+M,fun n hn=>?_⟩
 show Go.AM.bO14 (A n) (k n)=some r
 rw[ha n (by omega)]
 exact hk n (by omega)
theorem Ev.bO15 {A1 A2 A3 A4 A5 A6 A7 A8 A9 A10 A11 A12 A13 A14 A15 γ:Type}{A:Nat→Option (A1×A2×A3×A4×A5×A6×A7×A8×A9×A10×A11×A12×A13×A14×A15)}{a1:A1}{a2:A2}{a3:A3}{a4:A4}{a5:A5}{a6:A6}{a7:A7}{a8:A8}{a9:A9}{a10:A10}{a11:A11}{a12:A12}{a13:A13}{a14:A14}{a15:A15}{k:Nat→A1→A2→A3→A4→A5→A6→A7→A8→A9→A10→A11→A12→A13→A14→A15→Option γ}{r:γ}(ha:Ev A (a1,a2,a3,a4,a5,a6,a7,a8,a9,a10,a11,a12,a13,a14,a15)) (hk:Ev (fun n=>k n a1 a2 a3 a4 a5 a6 a7 a8 a9 a10 a11 a12 a13 a14 a15) r):Ev (fun n=>bO15 (A n) (k n)) r:=by
 obtain⟨N,ha⟩:=ha
 obtain⟨M,hk⟩:=hk
 refine⟨N+M,fun n hn=>?_⟩
 show Go.AM.bO15 (A n) (k n)=some r
 rw[ha n (by omega)]
 exact hk n (by omega)
theorem Ev.bO16 {A1 A2 A3 A4 A5 A6 A7 A8 A9 A10 A11 A12 A13 A14 A15 A16 γ:Type}{A:Nat→Option (A1×A2×A3×A4×A5×A6×A7×A8×A9×A10×A11×A12×A13×A14×A15×A16)}{a1:A1}{a2:A2}{a3:A3}{a4:A4}{a5:A5}{a6:A6}{a7:A7}{a8:A8}{a9:A9}{a10:A10}{a11:A11}{a12:A12}{a13:A13}{a14:A14}{a15:A15}{a16:A16}{k:Nat→A1→A2→A3→A4→A5→A6→A7→A8→A9→A10→A11→A12→A13→A14→A15→A16→Option γ}{r:γ}(ha:Ev A (a1,a2,a3,a4,a5,a6,a7,a8,a9,a10,a11,a12,a13,a14,a15,a16)) (hk:Ev (fun n=>k n a1 a2 a3 a4 a5 a6 a7 a8 a9 a10 a11 a12 a13 a14 a15 a16) r):Ev (fun n=>bO16 (A n) (k n)) r:=by
 obtain⟨N,ha⟩:=ha
 obtain⟨M,hk⟩:=hk
 refine⟨N+M,fun n hn=>?_⟩
 show Go.AM.bO16 (A n) (k n)=some r
 rw[ha n (by omega)]
 exact hk n (by omega)
theorem Ev.bO18 {A1 A2 A3 A4 A5 A6 A7 A8 A9 A10 A11 A12 A13 A14 A15 A16 A17 A18 γ:Type}{A:Nat→Option (A1×A2×A3×A4×A5×A6×A7×A8×A9×A10×A11×A12×A13×A14×A15×A16×A17×A18)}{a1:A1}{a2:A2}{a3:A3}{a4:A4}{a5:A5}{a6:A6}{a7:A7}{a8:A8}{a9:A9}{a10:A10}{a11:A11}{a12:A12}{a13:A13}{a14:A14}{a15:A15}{a16:A16}{a17:A17}{a18:A18}{k:Nat→A1→A2→A3→A4→A5→A6→A7→A8→A9→A10→A11→A12→A13→A14→A15→A16→A17→A18→Option γ}{r:γ}(ha:Ev A (a1,a2,a3,a4,a5,a6,a7,a8,a9,a10,a11,a12,a13,a14,a15,a16,a17,a18)) (hk:Ev (fun n=>k n a1 a2 a3 a4 a5 a6 a7 a8 a9 a10 a11 a12 a13 a14 a15 a16 a17 a18) r):Ev (fun n=>bO18 (A n) (k n)) r:=by
 obtain⟨N,ha⟩:=ha
 obtain⟨M,hk⟩:=hk
 refine⟨N+M,fun n hn=>?_⟩
 show Go.AM.bO18 (A n) (k n)=some r
 rw[ha n (by omega)]
 exact hk n (by omega)
end Go.AM
namespace Go.AM
open Go Go.RowKit Go.ChangeShapes Go.WideShapes
def Shapes (ti:Types):List TypeId→List D→Prop
 | [],[]=>True
 | t::ts,x::xs=>Shape ti t x.cells∧(∀y,ti t=some y→x.isAgg=rowD y.desc)∧Shapes ti ts xs
 | _,_=>False
theorem Shapes.length {ti:Types}:∀{ts:List TypeId}{xs:List D},Shapes ti ts xs→xs.length=ts.length
 | [],[],_=>rfl
 | _::_,_::_,h=>by simp[Shapes.length h.2.2]
 | [],_::_,h=>h.elim
 | _::_,[],h=>h.elim
section
variable {H:Type}{enc:TypeId×Value→H}{P:Program}{ti:Types}{T:List TypeId}{w:World}
theorem conv_arg (hti:TIok P ti) (hT:plainB ti T=true) {Z:Zone}(hZ:∀b o,¬Z b o) {base base':Nat}{spare:Nat→Bool}{held:Bool}{r:Reach}{t:TypeId}{v:Value}{d:DataW H}{ps:List MemPlace}(ht:t∈T)
  (hok:Value.okWide P w r base' t v) (h:DataW.Trod enc P w base spare held t v d ps):∃x:D,Shape ti t x.cells∧(∀y,ti t=some y→x.isAgg=rowD y.desc)∧RelD w Z x v:=by
 obtain⟨fuel,h⟩:=h
 obtain⟨ds,hs,h1,h2,h3⟩:=conv hti hT (Z:=Z) hZ fuel t _ _ _ ht h
 have hp:=List.all_eq_true.1 hT t ht
 split at hp
 ·rename_i y hy
  have hu:=(hti t y hy).1
  have single:rowD y.desc=false→v.cells.toList=[v]→∃x:D,Shape ti t x.cells∧(∀y,ti t=some y→x.isAgg=rowD y.desc)∧RelD w Z x v:=by
   intro hr hv
   rw[hv]at h1 h3
   obtain⟨c,rfl⟩:=List.length_eq_one_iff.1 h1
   have hc:=h2 c (by simp)
   have e:c.cells=[c]:=by cases c<;>first | rfl | simp[D.isAgg]at hc
   refine⟨c,by rw[e];exact hs,fun y' hy'=>?_,h3 0 c v rfl rfl⟩
   rw[hy]at hy'
   obtain rfl:y=y':=by simpa using hy'
   rw[hc,hr]
  split at hp
  ·rename_i hd
   rw[hd]at hu
   obtain⟨b,rfl⟩:=okWide_bool hu hok
   exact single (by rw[hd];rfl) rfl
  ·rename_i k hd
   rw[hd]at hu
   obtain⟨b,rfl⟩:=okWide_int hu hok
   exact single (by rw[hd];rfl) rfl
  ·rename_i hd
   rw[hd]at hu
   obtain⟨b,rfl⟩:=okWide_string hu hok
   exact single (by rw[hd];rfl) rfl
  ·rename_i e hd
   rw[hd]at hu
   obtain⟨a,l,c,rfl⟩:=okWide_slice hu hok
   exact single (by rw[hd];rfl) rfl
  ·rename_i fs hd
   rw[hd]at hu
   obtain⟨cs,rfl,_⟩:=okWide_struct hu hok
   refine⟨.agg ds,hs,fun y' hy'=>?_,.agg ds cs (by simpa [Value.cells] using h1.symm) h2 (fun j c u hc hu'=>h3 j c u hc (by simpa [Value.cells] using hu'))⟩
   rw[hy]at hy'
   obtain rfl:y=y':=by simpa using hy'
   rw[hd];rfl
  ·simp at hp
 ·simp at hp
theorem conv_args (hti:TIok P ti) (hT:plainB ti T=true) {Z:Zone}(hZ:∀b o,¬Z b o) {base base':Nat}{spare:Nat→Bool}{held:Bool}{r:Reach}:
  ∀(ts:List TypeId) (vs:List Value) (ds:List (DataW H)) (ps:List MemPlace),(∀t∈ts,t∈T)→DataW.TrodAll enc P w base spare held ts vs ds ps→
   (∀(j:Nat) t v,ts[j]?=some t→vs[j]?=some v→Value.okWide P w r base' t v)→
   ∃xs,Shapes ti ts xs∧∀(j:Nat) x v,xs[j]?=some x→vs[j]?=some v→RelD w Z x v
 | [],vs,ds,ps,_,h,_=>⟨[],trivial,by simp⟩
 | t::ts,vs,ds,ps,ht,h,hok=>by
  obtain⟨v,vs1,d,ds1,a,b,rfl,rfl,rfl,h1,h2⟩:=trodAll_cons h
  obtain⟨x,k1,k2,k3⟩:=conv_arg hti hT hZ (ht t (by simp)) (hok 0 t v rfl rfl) h1
  obtain⟨xs,k4,k5⟩:=conv_args hti hT hZ ts vs1 ds1 b (fun t ht'=>ht t (by simp[ht'])) h2 (fun j t v h1 h2=>hok (j+1) t v (by simpa using h1) (by simpa using h2))
  refine⟨x::xs,⟨k1,k2,k4⟩,fun j x' v' hx hv=>?_⟩
  match j with
  | 0=>simp at hx hv;subst hx;subst hv;exact k3
  | j+1=>simp at hx hv;exact k5 j x' v' hx hv
theorem again_all (hl:laidOutB P=true) {W W':World}(hb:Below W.heap.size W W'):∀(ts:List TypeId) (vs:List Value) (ds:List (DataW H)) (ps:List MemPlace),
  (∀t∈ts,P.readableRec t=true∧t<P.types.size)→DataW.TrodAll enc P W 0 (fun _=>true) true ts vs ds ps→(∀x∈ps,x.block<W.heap.size)→
  DataW.TrodAll enc P W' 0 (fun b=>decide (b<W.heap.size)) true ts vs ds ps
 | [],vs,ds,ps,_,h,_=>by
  obtain⟨rfl,rfl,rfl⟩:=trodAll_nil h
  exact rfl
 | t::ts,vs,ds,ps,ht,h,hlt=>by
  obtain⟨v,vs1,d,ds1,a,b,rfl,rfl,rfl,h1,h2⟩:=trodAll_cons h
  have ht1:=ht t (by simp)
  exact⟨a,b,Below.trod hl ht1.1 ht1.2 h1 hb (fun x hx=>hlt x (by simp[hx])),again_all hl hb ts vs1 ds1 b (fun t ht'=>ht t (by simp[ht'])) h2 (fun x hx=>hlt x (by simp[hx])),rfl⟩
theorem law_calls {I:Inv}(hti:TIok P ti) (hT:plainB ti T=true) {s:ChangeSpec}{fn:Func}{f:FuncId}{ts:List TypeId}{bt:TypeId}
  (hp:fn.params.toList=ts) (hv:s.vars=[]) (hr:fn.resultTypes=#[bt]) (hb:P.underlying bt=some .bool) (htT:∀t∈ts,t∈T)
  (hs:∀ds:List (DataW H),ds.length=ts.length→(s.fn H ds).results=[.lit (.bool true)]∧(s.fn H ds).args=ds∧(s.fn H ds).vars=[])
  (hl:laidOutB P=true) (hrec:∀t∈ts,P.readableRec t=true∧t<P.types.size)
  (hc:∀xs:List D,Shapes ti ts xs→Trip P I f (xs.map V1.d) [] (.v (.d (.bool true))) [] [])
  {W:World} {base:Nat} {args:Array Value} {ds gs:List (DataW H)} {before:List MemPlace}
  (hI:I.at W fun _ _=>False) (hval:∀(j:Nat) t v,fn.params[j]?=some t→args[j]?=some v→Value.okWide P W .any base t v)
  (hW:DataW.Whole enc P fn.params.toList s.vars false W args.toList ds gs before):
  Calls P f args W fun e W'=>∃v,e= .returned v∧s.post enc P fn false true false false W args v W':=by
 have hW':=hW
 obtain⟨p,q,hA,hV,rfl,_,_⟩:=hW
 rw[hv]at hV
 obtain⟨rfl,rfl⟩:gs=[]∧q=[]:=by
  cases gs with
  | nil=>exact⟨rfl,hV⟩
  | cons _ _=>exact hV.elim
 rw[hp]at hA
 obtain⟨hlen,hdl⟩:=trodAll_length hA
 obtain⟨xs,hsh,hrel⟩:=conv_args hti hT (Z:=fun _ _=>False) (fun _ _ h=>h) (r:=.any) (base':=base) ts args.toList ds p htT hA (fun j t v h1 h2=>hval j t v (by
  rw[←Array.getElem?_toList,hp];exact h1) (by simpa using h2))
 have hxl:=hsh.length
 have hcall:=hc xs hsh
 have hheap:∀i o,heapOf [] i=some o→False:=by
  intro i o h
  cases i<;>simp[heapOf]at h
 have hzone:∀(g:Ghost) b o,¬zone g (heapOf []) b o:=by
  rintro g b o ⟨i,ob,h,_⟩
  exact hheap i ob h
 refine (hcall.calls (w:=W) (X:=fun _ _=>False) (g:=fun _=>undef) (vals:=args) (fun _ _ h=>h.elim) (hI.mono fun b o hz=>hz.elim (hzone _ b o) id) ⟨fun i o h=>(hheap i o h).elim,fun i _ _ _ _ h=>(hheap i _ h).elim,fun i _ _ _ h=>(hheap i _ h).elim⟩ (fun _=>rfl)
  (by simp at hlen;simp;omega) (fun j x v hx hvv=>?_)).mono ?_
 ·simp only[List.getElem?_map,Option.map_eq_some_iff]at hx
  obtain⟨d,hd,rfl⟩:=hx
  exact (hrel j d v hd (by simpa using hvv)).mono (fun b o u hu _=>⟨hu,fun hz=>hz.elim (hzone _ b o) id⟩)
 ·rintro e W' ⟨v,g',rfl,hpost⟩
  obtain rfl:v= .bool true:=by cases (show RelD _ _ (.bool true) v from hpost.res);rfl
  have hbel:Below W.heap.size W W':=⟨hpost.frame.os,hpost.frame.tape,hpost.frame.output,hpost.frame.size,fun k hk=>hpost.frame.block k hk (fun o=>hzone _ k o)⟩
  obtain⟨s1,s2,s3⟩:=hs (ds++[]) (by simp[hdl])
  refine⟨_,rfl,ds,[],p++[],[],p,[],hW',?_,?_,?_,hbel.frame _,fun h=>by cases h⟩
  ·rw[s1,hr]
   exact trodAll_mk1 (shut_bool hb true)
  ·rw[s2,hp,List.append_nil]
   exact again_all hl hbel ts args.toList ds p hrec hA (fun x hx=>hW'.lt x (by simp[hx]))
  ·rw[s3,hv];rfl
end
end Go.AM
set_option linter.unusedVariables false
noncomputable section
namespace Go.Proofs.YtjmofeakajdbiaaGreatDoor
open Go Go.AM
abbrev emp (s:ByteArray):Bool:=decide (s=ByteArray.empty)
def intB (z1 z2:Int):Bool:=if z1=1 then decide (0≤z2)else if z1=2 then decide (z2=0) || decide (z2=1)else decide (z2=0)
def nameB (z1:Int) (s:ByteArray):Bool:=if z1=18 then nm 97 122 s else if z1=19∨z1=20 then nm 65 90 s else emp s
def secB (z1:Int) (s:ByteArray):Bool:=if z1=20 then nm 65 90 s else emp s
def fldB (s:ByteArray) (l6 l7:List D):Bool:=emp s&&(decide (l6.length=l7.length)&&l6.all nmB)
def placB (z1:Int) (hp:Bool) (s:ByteArray) (l6 l7:List D):Bool:=if hp=true then plB s l6 else if z1=19 then fldB s l6 l7 else emp s&&decide (l6.length=0)
section
variable {z1 z2:Int}{s3 s4 s5:ByteArray}{l6 l7:List D}{z8:Int}
theorem ev43 (h6:ListS tab 9 l6):Ev (fun n=>F136 n z1 z2 s3 s4 s5 l6 l7 z8) (fldB s5 l6 l7):=by
 have loop:∀i,i≤l6.length→Ev (fun n=>L136_2 n l6 (i:Int)) ((l6.drop i).all nmB):=by
  refine down l6.length (Ev.succ ?_) (fun i hi ih=>?_)
  ·simp only[L136_2,lenF,Int.lt_irrefl,if_false,List.drop_length]
   exact Ev.succ (by simp only[L136_3,Bool.false_eq_true,if_false];exact Ev.ret)
  ·obtain⟨x,hx,_,hr⟩:=h6.get hi
   obtain⟨s,rfl,hs⟩:=rs9 hr
   rw[all_drop hx]
   refine Ev.succ ?_
   simp only[L136_2,lenF,if_pos (show (i:Int)<(l6.length:Int)by omega)]
   refine Ev.succ ?_
   simp only[L136_3,if_true,getF_nat hx,ds_str,nmB]
   refine Ev.bO1 (ev14 hs) ?_
   cases nm 97 122 s
   ·simp only[letB,Bool.not_false,if_true,Bool.false_and];exact Ev.ret
   ·simp only[letB,Bool.not_true,Bool.false_eq_true,if_false,letF,wrap_succ hi h6.1,Bool.true_and];exact ih
 have no:Ev (fun n=>L136_1 n l6 true) false:=Ev.succ (by simp only[L136_1,if_true];exact Ev.ret)
 unfold F136 fldB
 by_cases e:s5=ByteArray.empty
 ·simp only[if_pos e,lenF,decide_eq_true e,Bool.true_and]
  by_cases e2:l6.length=l7.length
  ·simp only[if_pos (show (l6.length:Int)=(l7.length:Int)by omega),decide_eq_true e2,Bool.true_and]
   exact Ev.succ (by simp only[L136_1,Bool.false_eq_true,if_false];exact loop 0 (Nat.zero_le _))
  ·simp only[if_neg (show ¬(l6.length:Int)=(l7.length:Int)by omega),decide_eq_false e2,Bool.false_and];exact no
 ·simp only[if_neg e,decide_eq_false e,Bool.false_and];exact no
variable {f:ByteArray}{hp:Bool}{least most:Int}(G:Good z1 f hp least most) {deep:Int}{A:Bool}
theorem g9 (hA:Ev (fun n=>L84_10 n z1 l7 deep (0:Int)) A) (b:Bool):Ev (fun n=>L84_9 n z1 l7 deep (!b)) (b&&A):=by
 refine .succ ?_
 cases b
 ·simp only[L84_9,Bool.not_false,if_true,Bool.false_and];exact Ev.ret
 ·simp only[L84_9,Bool.not_true,Bool.false_eq_true,if_false,Bool.true_and];exact hA
include G
theorem g8 (h4:s4.size≤maxLen) (hA:Ev (fun n=>L84_10 n z1 l7 deep (0:Int)) A) (b:Bool):Ev (fun n=>L84_8 n z1 s4 l7 deep f (!b)) (b&&(secB z1 s4&&A)):=by
 have k9:=g9 hA
 refine .succ ?_
 cases b
 ·simp only[L84_8,Bool.not_false,if_true,Bool.false_and];exact Ev.ret
 simp only[L84_8,Bool.not_true,Bool.false_eq_true,if_false,Bool.true_and]
 refine Ev.bO1 G.hv ?_
 by_cases c:z1=20
 ·simp only[decide_eq_true c,if_true,secB,if_pos c]
  refine Ev.bO1 (ev16 h4) ?_
  cases nm 65 90 s4
  ·simp only[letB,Bool.not_false,if_true];exact k9 false
  ·simp only[letB,Bool.not_true,Bool.false_eq_true,if_false]
   refine Ev.bO1 G.hv ?_
   simp only[decide_eq_true c,letB,Bool.not_true,Bool.false_eq_true,if_false];exact k9 true
 ·simp only[decide_eq_false c,Bool.false_eq_true,if_false,secB,if_neg c]
  refine Ev.bO1 G.hv ?_
  simp only[decide_eq_false c,letB,Bool.not_false,if_true]
  by_cases e:s4=ByteArray.empty
  ·simp only[if_pos e,emp,decide_eq_true e];exact k9 true
  ·simp only[if_neg e,emp,decide_eq_false e];exact k9 false
theorem g7 (h3:s3.size≤maxLen) (h4:s4.size≤maxLen) (hA:Ev (fun n=>L84_10 n z1 l7 deep (0:Int)) A):Ev (fun n=>L84_7 n z1 s3 s4 l7 deep f) (nameB z1 s3&&(secB z1 s4&&A)):=by
 have k8:=g8 G h4 hA
 refine .succ ?_
 simp only[L84_7]
 refine Ev.bO1 G.hn ?_
 by_cases c:z1=18
 ·have ct:¬(z1=19∨z1=20):=by omega
  simp only[decide_eq_true c,if_true,nameB,if_pos c]
  refine Ev.bO1 (ev14 h3) ?_
  cases nm 97 122 s3
  ·simp only[letB,Bool.not_false,if_true];exact k8 false
  ·simp only[letB,Bool.not_true,Bool.false_eq_true,if_false]
   refine Ev.bO1 G.ht ?_
   simp only[decide_eq_false ct,Bool.false_eq_true,if_false]
   refine Ev.bO1 G.hn ?_
   simp only[decide_eq_true c,letB,Bool.not_true,Bool.false_eq_true,if_false];exact k8 true
 simp only[decide_eq_false c,Bool.false_eq_true,if_false,nameB,if_neg c]
 refine Ev.bO1 G.ht ?_
 by_cases ct:z1=19∨z1=20
 ·simp only[decide_eq_true ct,if_true,if_pos ct]
  refine Ev.bO1 (ev16 h3) ?_
  cases nm 65 90 s3
  ·simp only[letB,Bool.not_false,if_true];exact k8 false
  ·simp only[letB,Bool.not_true,Bool.false_eq_true,if_false]
   refine Ev.bO1 G.hn ?_
   simp only[decide_eq_false c,letB,Bool.not_false,if_true]
   refine Ev.bO1 G.ht ?_
   simp only[decide_eq_true ct,letB,Bool.not_true,Bool.false_eq_true,if_false];exact k8 true
 ·simp only[decide_eq_false ct,Bool.false_eq_true,if_false,if_neg ct]
  refine Ev.bO1 G.hn ?_
  simp only[decide_eq_false c,letB,Bool.not_false,if_true]
  refine Ev.bO1 G.ht ?_
  simp only[decide_eq_false ct,letB,Bool.not_false,if_true]
  by_cases e:s3=ByteArray.empty
  ·simp only[if_pos e,emp,decide_eq_true e];exact k8 true
  ·simp only[if_neg e,emp,decide_eq_false e];exact k8 false
theorem g5 (h3:s3.size≤maxLen) (h4:s4.size≤maxLen) (h5:s5.size≤maxLen) (h6:ListS tab 9 l6) (hA:Ev (fun n=>L84_10 n z1 l7 deep (0:Int)) A):
  Ev (fun n=>L84_5 n z1 z2 s3 s4 s5 l6 l7 z8 deep f) (placB z1 hp s5 l6 l7&&(nameB z1 s3&&(secB z1 s4&&A))):=by
 have k7:=g7 G h3 h4 hA
 refine .succ ?_
 simp only[L84_5]
 refine Ev.bO1 G.h112 ?_
 cases hp
 ·simp only[Bool.false_eq_true,if_false,placB]
  refine Ev.bO1 G.hf ?_
  by_cases c:z1=19
  ·simp only[decide_eq_true c,if_true,if_pos c]
   refine Ev.bO1 (ev43 h6) ?_
   cases fldB s5 l6 l7
   ·simp only[letB,Bool.not_false,if_true,Bool.false_and];exact Ev.ret
   ·simp only[letB,Bool.not_true,Bool.false_eq_true,if_false,Bool.true_and];exact k7
  ·simp only[decide_eq_false c,Bool.false_eq_true,if_false,if_neg c]
   have k6:∀b,Ev (fun n=>L84_6 n z1 s3 s4 l7 deep f (!b)) (b&&(nameB z1 s3&&(secB z1 s4&&A))):=by
    intro b
    refine .succ ?_
    cases b
    ·simp only[L84_6,Bool.not_false,if_true,Bool.false_and];exact Ev.ret
    ·simp only[L84_6,Bool.not_true,Bool.false_eq_true,if_false,Bool.true_and];exact k7
   by_cases e:s5=ByteArray.empty
   ·simp only[if_pos e,emp,decide_eq_true e,Bool.true_and,lenF]
    by_cases e2:l6.length=0
    ·simp only[if_neg (show ¬0<(l6.length:Int)by omega),decide_eq_true e2];exact k6 true
    ·simp only[if_pos (show 0<(l6.length:Int)by omega),decide_eq_false e2];exact k6 false
   ·simp only[if_neg e,emp,decide_eq_false e,Bool.false_and];exact k6 false
 ·simp only[if_true,placB]
  refine Ev.bO1 (ev25 h5 h6) ?_
  cases plB s5 l6
  ·simp only[letB,Bool.not_false,if_true,Bool.false_and];exact Ev.ret
  ·simp only[letB,Bool.not_true,Bool.false_eq_true,if_false,Bool.true_and];exact k7
theorem g1 (h3:s3.size≤maxLen) (h4:s4.size≤maxLen) (h5:s5.size≤maxLen) (h6:ListS tab 9 l6) (hA:Ev (fun n=>L84_10 n z1 l7 deep (0:Int)) A):
  Ev (fun n=>L84_1 n z1 z2 s3 s4 s5 l6 l7 z8 deep f false) (intB z1 z2&&(placB z1 hp s5 l6 l7&&(nameB z1 s3&&(secB z1 s4&&A)))):=by
 have k5:=g5 (z2:=z2) (z8:=z8) G h3 h4 h5 h6 hA
 refine .succ ?_
 simp only[L84_1,Bool.false_eq_true,if_false]
 refine Ev.bO1 G.hi ?_
 by_cases c1:z1=1
 ·simp only[decide_eq_true c1,if_true,intB,if_pos c1]
  by_cases c:0≤z2
  ·simp only[if_neg (show ¬z2<0 by omega),decide_eq_true c,Bool.true_and]
   exact .succ (by simp only[L84_2,Bool.false_eq_true,if_false];exact k5)
  ·simp only[if_pos (show z2<0 by omega),decide_eq_false c,Bool.false_and]
   exact .succ (by simp only[L84_2,if_true];exact Ev.ret)
 simp only[decide_eq_false c1,Bool.false_eq_true,if_false,intB,if_neg c1]
 refine Ev.bO1 G.hb ?_
 by_cases c2:z1=2
 ·simp only[decide_eq_true c2,if_true,if_pos c2]
  have y:Ev (fun n=>L84_3 n z1 z2 s3 s4 s5 l6 l7 z8 deep f false) (placB z1 hp s5 l6 l7&&(nameB z1 s3&&(secB z1 s4&&A))):=.succ (by simp only[L84_3,Bool.false_eq_true,if_false];exact k5)
  by_cases c:z2=0
  ·simp only[if_pos c,decide_eq_true c,Bool.true_or,Bool.true_and];exact y
  ·by_cases d:z2=1
   ·simp only[if_neg c,if_pos d,decide_eq_true d,Bool.or_true,Bool.true_and];exact y
   ·simp only[if_neg c,if_neg d,decide_eq_false c,decide_eq_false d,Bool.or_false,Bool.false_and]
    exact .succ (by simp only[L84_3,if_true];exact Ev.ret)
 ·simp only[decide_eq_false c2,Bool.false_eq_true,if_false,if_neg c2]
  by_cases c:z2=0
  ·simp only[if_pos c,decide_eq_true c,Bool.true_and]
   exact .succ (by simp only[L84_4,Bool.false_eq_true,if_false];exact k5)
  ·simp only[if_neg c,decide_eq_false c,Bool.false_and]
   exact .succ (by simp only[L84_4,if_true];exact Ev.ret)
end
end Go.Proofs.YtjmofeakajdbiaaGreatDoor
end
set_option linter.unusedVariables false
noncomputable section
namespace Go.Proofs.YtjmofeakajdbiaaGreatDoor
open Go Go.AM
theorem getF_zero {γ:Type}(x:D) (l:List D) (k:D→Option γ):getF (x::l) (0:Int) k=k x:=getF_nat (i:=0) rfl
theorem evk {α:Type}{A:Nat→Option α}{r:α}(h:∀m,A (m+300)=some r):Ev A r:=⟨300,fun n hn=>by obtain⟨m,rfl⟩:∃m,n=m+300:=⟨n - 300,by omega⟩;exact h m⟩
set_option maxRecDepth 100000 in
set_option maxHeartbeats 40000000 in
theorem aw0:Ev (fun n=>F10 n []) true:=evk (fun m=>(by kernel_rfl:F10 (m+300) []=some true))
set_option maxRecDepth 100000 in
set_option maxHeartbeats 40000000 in
theorem aw1:Ev (fun n=>F10 n [(.agg [.int .u8 3,.str k_main,.list true 4 [],.int .u8 1,.str ByteArray.empty,.list true 3 [],.list true 15 [],.int .u8 1,.int .i64 0,.str ByteArray.empty,.str ByteArray.empty,.str ByteArray.empty,.list false 1 [],.list true 8 [],.int .i64 0,.int .i64 0]:D)]) true:=evk (fun m=>(by kernel_rfl:F10 (m+300) [(.agg [.int .u8 3,.str k_main,.list true 4 [],.int .u8 1,.str ByteArray.empty,.list true 3 [],.list true 15 [],.int .u8 1,.int .i64 0,.str ByteArray.empty,.str ByteArray.empty,.str ByteArray.empty,.list false 1 [],.list true 8 [],.int .i64 0,.int .i64 0]:D)]=some true))
set_option maxRecDepth 100000 in
set_option maxHeartbeats 40000000 in
theorem aw2:Ev (fun n=>F12 n [(.agg [.int .u8 3,.str k_main,.list true 4 [],.int .u8 1,.str ByteArray.empty,.list true 3 [],.list true 15 [],.int .u8 1,.int .i64 0,.str ByteArray.empty,.str ByteArray.empty,.str ByteArray.empty,.list false 1 [],.list true 8 [],.int .i64 0,.int .i64 0]:D)]) (3:Int):=evk (fun m=>(by kernel_rfl:F12 (m+300) [(.agg [.int .u8 3,.str k_main,.list true 4 [],.int .u8 1,.str ByteArray.empty,.list true 3 [],.list true 15 [],.int .u8 1,.int .i64 0,.str ByteArray.empty,.str ByteArray.empty,.str ByteArray.empty,.list false 1 [],.list true 8 [],.int .i64 0,.int .i64 0]:D)]=some (3:Int)))
set_option maxRecDepth 100000 in
set_option maxHeartbeats 40000000 in
theorem aw3:Ev (fun n=>F14 n [(.agg [.int .u8 3,.str k_main,.list true 4 [],.int .u8 1,.str ByteArray.empty,.list true 3 [],.list true 15 [],.int .u8 1,.int .i64 0,.str ByteArray.empty,.str ByteArray.empty,.str ByteArray.empty,.list false 1 [],.list true 8 [],.int .i64 0,.int .i64 0]:D)]) (2:Int):=evk (fun m=>(by kernel_rfl:F14 (m+300) [(.agg [.int .u8 3,.str k_main,.list true 4 [],.int .u8 1,.str ByteArray.empty,.list true 3 [],.list true 15 [],.int .u8 1,.int .i64 0,.str ByteArray.empty,.str ByteArray.empty,.str ByteArray.empty,.list false 1 [],.list true 8 [],.int .i64 0,.int .i64 0]:D)]=some (2:Int)))
set_option maxRecDepth 100000 in
set_option maxHeartbeats 40000000 in
theorem aw4:Ev (fun n=>F12 n []) (1:Int):=evk (fun m=>(by kernel_rfl:F12 (m+300) []=some (1:Int)))
set_option maxRecDepth 100000 in
set_option maxHeartbeats 40000000 in
theorem aw5:Ev (fun n=>F21 n (1:Int) ByteArray.empty ([]:List D)) true:=evk (fun m=>(by kernel_rfl:F21 (m+300) (1:Int) ByteArray.empty ([]:List D)=some true))
set_option maxRecDepth 100000 in
set_option maxHeartbeats 40000000 in
theorem aw6:Ev (fun n=>F21 n (5:Int) ByteArray.empty ([]:List D)) false:=evk (fun m=>(by kernel_rfl:F21 (m+300) (5:Int) ByteArray.empty ([]:List D)=some false))
set_option maxRecDepth 100000 in
set_option maxHeartbeats 40000000 in
theorem aw7:Ev (fun n=>F21 n (1:Int) k_T ([]:List D)) false:=evk (fun m=>(by kernel_rfl:F21 (m+300) (1:Int) k_T ([]:List D)=some false))
set_option maxRecDepth 100000 in
set_option maxHeartbeats 40000000 in
theorem aw8:Ev (fun n=>F20 n (1:Int) (-1:Int) ByteArray.empty ByteArray.empty ByteArray.empty ([]:List D) ([]:List D) (0:Int)) false:=evk (fun m=>(by kernel_rfl:F20 (m+300) (1:Int) (-1:Int) ByteArray.empty ByteArray.empty ByteArray.empty ([]:List D) ([]:List D) (0:Int)=some false))
set_option maxRecDepth 100000 in
set_option maxHeartbeats 40000000 in
theorem aw9:Ev (fun n=>F20 n (5:Int) (0:Int) ByteArray.empty ByteArray.empty k_x ([]:List D) ([]:List D) (0:Int)) false:=evk (fun m=>(by kernel_rfl:F20 (m+300) (5:Int) (0:Int) ByteArray.empty ByteArray.empty k_x ([]:List D) ([]:List D) (0:Int)=some false))
set_option maxRecDepth 100000 in
set_option maxHeartbeats 40000000 in
theorem aw10:Ev (fun n=>F20 n (18:Int) (0:Int) k_f ByteArray.empty ByteArray.empty ([]:List D) [(.agg [.int .u8 5,.int .i64 0,.str ByteArray.empty,.str ByteArray.empty,.str k_x,.list false 1 [],.list true 8 [],.int .i64 0]:D)] (0:Int)) true:=evk (fun m=>(by kernel_rfl:F20 (m+300) (18:Int) (0:Int) k_f ByteArray.empty ByteArray.empty ([]:List D) [(.agg [.int .u8 5,.int .i64 0,.str ByteArray.empty,.str ByteArray.empty,.str k_x,.list false 1 [],.list true 8 [],.int .i64 0]:D)] (0:Int)=some true))
set_option maxRecDepth 100000 in
set_option maxHeartbeats 40000000 in
theorem aw11:Ev (fun n=>F52 n k_x [.str k_a,.str k__]) true:=evk (fun m=>(by kernel_rfl:F52 (m+300) k_x [.str k_a,.str k__]=some true))
set_option maxRecDepth 100000 in
set_option maxHeartbeats 40000000 in
theorem aw12:Ev (fun n=>F52 n k_X []) false:=evk (fun m=>(by kernel_rfl:F52 (m+300) k_X []=some false))
set_option maxRecDepth 100000 in
set_option maxHeartbeats 40000000 in
theorem aw13:Ev (fun n=>F25 n [(.agg [.int .u8 3,.str k_main,.list true 4 [],.int .u8 1,.str ByteArray.empty,.list true 3 [],.list true 15 [],.int .u8 1,.int .i64 0,.str ByteArray.empty,.str ByteArray.empty,.str ByteArray.empty,.list false 1 [],.list true 8 [],.int .i64 0,.int .i64 0]:D)] [(.agg [.int .u8 3,.str k_main,.list true 4 [],.int .u8 1,.str ByteArray.empty,.list true 3 [],.list true 15 [],.int .u8 1,.int .i64 0,.str ByteArray.empty,.str ByteArray.empty,.str ByteArray.empty,.list false 1 [],.list true 8 [],.int .i64 0,.int .i64 7]:D)]) true:=evk (fun m=>(by kernel_rfl:F25 (m+300) [(.agg [.int .u8 3,.str k_main,.list true 4 [],.int .u8 1,.str ByteArray.empty,.list true 3 [],.list true 15 [],.int .u8 1,.int .i64 0,.str ByteArray.empty,.str ByteArray.empty,.str ByteArray.empty,.list false 1 [],.list true 8 [],.int .i64 0,.int .i64 0]:D)] [(.agg [.int .u8 3,.str k_main,.list true 4 [],.int .u8 1,.str ByteArray.empty,.list true 3 [],.list true 15 [],.int .u8 1,.int .i64 0,.str ByteArray.empty,.str ByteArray.empty,.str ByteArray.empty,.list false 1 [],.list true 8 [],.int .i64 0,.int .i64 7]:D)]=some true))
set_option maxRecDepth 100000 in
set_option maxHeartbeats 40000000 in
theorem aw14:Ev (fun n=>F115 n []) ([]:List D):=evk (fun m=>(by kernel_rfl:F115 (m+300) []=some ([]:List D)))
set_option maxRecDepth 100000 in
set_option maxHeartbeats 40000000 in
theorem aw15:Ev (fun n=>F102 n 1 ByteArray.empty []) ((1:Int),ByteArray.empty,([]:List D)):=evk (fun m=>(by kernel_rfl:F102 (m+300) 1 ByteArray.empty []=some ((1:Int),ByteArray.empty,([]:List D))))
set_option maxRecDepth 100000 in
set_option maxHeartbeats 40000000 in
theorem aw16:Ev (fun n=>F109 n []) ([]:List D):=evk (fun m=>(by kernel_rfl:F109 (m+300) []=some ([]:List D)))
set_option maxRecDepth 100000 in
set_option maxHeartbeats 40000000 in
theorem aw17:Ev (fun n=>F107 n []) ([]:List D):=evk (fun m=>(by kernel_rfl:F107 (m+300) []=some ([]:List D)))
theorem ev105:Ev (fun n=>F105 n []) []:=by
 have h:Ev (fun n=>L105_1 n [] false) ([]:List D):=.succ (by simp[L105_1,appF];exact .ret)
 have h':Ev (fun n=>L105_1 n [] true) ([]:List D):=.succ (by simp[L105_1];exact .ret)
 obtain⟨N,hN⟩:=h
 obtain⟨N',hN'⟩:=h'
 refine⟨N+N',fun n hn=>?_⟩
 have e1:=hN n (by omega)
 have e2:=hN' n (by omega)
 show nilF _ _ _=_
 rw[nilF_eq (fun _=>by rw[show L105_1 n [] true=_ from e2,show L105_1 n [] false=_ from e1])]
 exact e1
theorem ev24k:Ev (fun n=>F24 n [(.agg [.int .u8 3,.str k_main,.list true 4 [],.int .u8 1,.str ByteArray.empty,.list true 3 [],.list true 15 [],.int .u8 1,.int .i64 0,.str ByteArray.empty,.str ByteArray.empty,.str ByteArray.empty,.list false 1 [],.list true 8 [],.int .i64 0,.int .i64 7]:D)]) [(.agg [.int .u8 3,.str k_main,.list true 4 [],.int .u8 1,.str ByteArray.empty,.list true 3 [],.list true 15 [],.int .u8 1,.int .i64 0,.str ByteArray.empty,.str ByteArray.empty,.str ByteArray.empty,.list false 1 [],.list true 8 [],.int .i64 0,.int .i64 0]:D)]:=by
 have h106:Ev (fun n=>F106 n 1 0 ByteArray.empty ByteArray.empty ByteArray.empty [] [] 0) (1,0,ByteArray.empty,ByteArray.empty,ByteArray.empty,[],[]):=by
  refine .succ ?_
  simp only[F106,F104]
  refine Ev.bO2 (Ev.bO1 ev105 .ret) (Ev.bO1 aw17 ?_)
  exact .of fun n=>rfl
 have h114:Ev (fun n=>F114 n 3 k_main [] 1 ByteArray.empty [] [] 1 0 ByteArray.empty ByteArray.empty ByteArray.empty [] [] 0 7) (3,k_main,[],1,ByteArray.empty,[],[],1,0,ByteArray.empty,ByteArray.empty,ByteArray.empty,[],[]):=by
  unfold F114
  refine Ev.bO1 aw14 (Ev.bO3 aw15 (Ev.bO1 aw16 (Ev.bO7 h106 ?_)))
  exact .of fun n=>rfl
 unfold F24 F56 F113
 refine Ev.bO1 (Ev.bO1 ?_ .ret) .ret
 simp only[lenF]
 refine .succ ?_
 simp only[L113_1,List.length_cons,List.length_nil,show (0:Int)<((0+1:Nat):Int)by decide,if_true]
 refine .succ ?_
 simp only[L113_2,if_true,getF_zero,ds_t45]
 refine Ev.bO14 h114 ?_
 simp only[appF,List.length_nil,List.length_cons,letF]
 simp only[if_pos (show 0+(0+1)≤maxLen∧(0+(0+1))*248≤140737488355328 by decide)]
 refine .succ ?_
 simp only[L113_1,if_neg (show ¬IntKind.wrap .i64 ((0:Int)+1)<((0+1:Nat):Int)by decide)]
 refine .succ ?_
 simp only[L113_2,Bool.false_eq_true,if_false]
 exact .ret
theorem ev_awake:Ev (fun n=>F17 n) true:=by
 have h22:Ev (fun n=>F22 n) [(.agg [.int .u8 3,.str k_main,.list true 4 [],.int .u8 1,.str ByteArray.empty,.list true 3 [],.list true 15 [],.int .u8 1,.int .i64 0,.str ByteArray.empty,.str ByteArray.empty,.str ByteArray.empty,.list false 1 [],.list true 8 [],.int .i64 0,.int .i64 0]:D)]:=.of fun n=>rfl
 refine Ev.bO1 h22 (Ev.bO1 h22 ?_)
 refine (Ev.bO1 ev24k (k:=fun n l21=>lenF l21 fun z22=>(if z22=(1:Int)then L17_1 n [(.agg [.int .u8 3,.str k_main,.list true 4 [],.int .u8 1,.str ByteArray.empty,.list true 3 [],.list true 15 [],.int .u8 1,.int .i64 0,.str ByteArray.empty,.str ByteArray.empty,.str ByteArray.empty,.list false 1 [],.list true 8 [],.int .i64 0,.int .i64 0]:D)] [(.agg [.int .u8 3,.str k_main,.list true 4 [],.int .u8 1,.str ByteArray.empty,.list true 3 [],.list true 15 [],.int .u8 1,.int .i64 0,.str ByteArray.empty,.str ByteArray.empty,.str ByteArray.empty,.list false 1 [],.list true 8 [],.int .i64 0,.int .i64 7]:D)] l21 false else L17_1 n [(.agg [.int .u8 3,.str k_main,.list true 4 [],.int .u8 1,.str ByteArray.empty,.list true 3 [],.list true 15 [],.int .u8 1,.int .i64 0,.str ByteArray.empty,.str ByteArray.empty,.str ByteArray.empty,.list false 1 [],.list true 8 [],.int .i64 0,.int .i64 0]:D)] [(.agg [.int .u8 3,.str k_main,.list true 4 [],.int .u8 1,.str ByteArray.empty,.list true 3 [],.list true 15 [],.int .u8 1,.int .i64 0,.str ByteArray.empty,.str ByteArray.empty,.str ByteArray.empty,.list false 1 [],.list true 8 [],.int .i64 0,.int .i64 7]:D)] l21 true)) ?_).congr fun n=>rfl
 simp only[lenF,List.length_cons,List.length_nil,show ((0+1:Nat):Int)=1 from rfl,if_true]
 refine .succ ?_
 simp only[L17_1,Bool.false_eq_true,if_false]
 refine Ev.bO1 aw0 ?_
 simp only[if_true]
 refine Ev.bO1 aw1 ?_
 simp only[if_true]
 refine Ev.bO1 aw2 ?_
 simp only[if_true]
 refine Ev.bO1 aw3 ?_
 simp only[if_true]
 refine Ev.bO1 aw4 ?_
 simp only[if_true]
 refine Ev.bO1 aw5 ?_
 simp only[if_true]
 refine Ev.bO1 aw6 ?_
 simp only[letB,Bool.not_false,if_true]
 refine Ev.bO1 aw7 ?_
 simp only[letB,Bool.not_false,if_true]
 refine Ev.bO1 aw8 ?_
 simp only[letB,Bool.not_false,if_true]
 refine Ev.bO1 aw9 ?_
 simp only[letB,Bool.not_false,if_true,letL]
 refine Ev.bO1 aw10 ?_
 simp only[if_true]
 refine Ev.bO1 aw11 ?_
 simp only[if_true]
 refine Ev.bO1 aw12 ?_
 simp only[letB,Bool.not_false,if_true]
 refine Ev.bO1 aw13 ?_
 exact .of fun n=>rfl
end Go.Proofs.YtjmofeakajdbiaaGreatDoor
set_option linter.unusedVariables false
noncomputable section
namespace Go.Proofs.YtjmofeakajdbiaaGreatDoor
open Go Go.AM
section
variable {α β γ:Type}
theorem tr {r:α}:Total (fun _=>some r):=⟨r,.ret⟩
theorem t_of {A:Nat→Option α}{r:α}(h:Ev A r):Total A:=⟨r,h⟩
theorem tu {A:Nat→Option α}(h:Total fun n=>A (n+1)):Total A:=h.imp fun _ h=>.succ h
theorem t1 {A:Nat→Option α}{k:Nat→α→Option γ}(ha:Total A) (hk:∀a,Total fun n=>k n a):Total fun n=>bO1 (A n) (k n):=by
 obtain⟨a,ha⟩:=ha
 obtain⟨r,h⟩:=hk a
 exact⟨r,.bO1 ha h⟩
theorem t2 {A:Nat→Option (α×β)}{k:Nat→α→β→Option γ}(ha:Total A) (hk:∀a b,Total fun n=>k n a b):Total fun n=>bO2 (A n) (k n):=by
 obtain⟨⟨a,b⟩,ha⟩:=ha
 obtain⟨r,h⟩:=hk a b
 exact⟨r,.bO2 ha h⟩
theorem t3 {A1 A2 A3:Type}{A:Nat→Option (A1×A2×A3)}{k:Nat→A1→A2→A3→Option γ}(ha:Total A) (hk:∀a b c,Total fun n=>k n a b c):Total fun n=>bO3 (A n) (k n):=by
 obtain⟨⟨a,b,c⟩,ha⟩:=ha
 obtain⟨r,h⟩:=hk a b c
 exact⟨r,.bO3 ha h⟩
theorem t4 {A1 A2 A3 A4:Type}{A:Nat→Option (A1×A2×A3×A4)}{k:Nat→A1→A2→A3→A4→Option γ}(ha:Total A) (hk:∀a b c d,Total fun n=>k n a b c d):Total fun n=>bO4 (A n) (k n):=by
 obtain⟨⟨a,b,c,d⟩,ha⟩:=ha
 obtain⟨r,h⟩:=hk a b c d
 exact⟨r,.bO4 ha h⟩
theorem t7 {A1 A2 A3 A4 A5 A6 A7:Type}{A:Nat→Option (A1×A2×A3×A4×A5×A6×A7)}{k:Nat→A1→A2→A3→A4→A5→A6→A7→Option γ}(ha:Total A) (hk:∀a b c d e f g,Total fun n=>k n a b c d e f g):Total fun n=>bO7 (A n) (k n):=by
 obtain⟨⟨a,b,c,d,e,f,g⟩,ha⟩:=ha
 obtain⟨r,h⟩:=hk a b c d e f g
 exact⟨r,.bO7 ha h⟩
theorem ta {A1 A2 A3 A4 A5 A6 A7 A8 A9 A10:Type}{A:Nat→Option (A1×A2×A3×A4×A5×A6×A7×A8×A9×A10)}{k:Nat→A1→A2→A3→A4→A5→A6→A7→A8→A9→A10→Option γ}(ha:Total A) (hk:∀a b c d e f g h i j,Total fun n=>k n a b c d e f g h i j):Total fun n=>bO10 (A n) (k n):=by
 obtain⟨⟨a,b,c,d,e,f,g,h,i,j⟩,ha⟩:=ha
 obtain⟨r,h⟩:=hk a b c d e f g h i j
 exact⟨r,.bO10 ha h⟩
theorem tS {A:Nat→Option (α ⊕ β)}{k1:Nat→α→Option γ}{k2:Nat→β→Option γ}(ha:Total A) (h1:∀a,Total fun n=>k1 n a) (h2:∀b,Total fun n=>k2 n b):Total fun n=>bS (A n) (k1 n) (k2 n):=by
 obtain⟨a | b,N,ha⟩:=ha
 ·obtain⟨r,M,h⟩:=h1 a
  refine⟨r,N+M,fun n hn=>?_⟩
  show bS (A n) (k1 n) (k2 n)=_
  rw[ha n (by omega)]
  exact h n (by omega)
 ·obtain⟨r,M,h⟩:=h2 b
  refine⟨r,N+M,fun n hn=>?_⟩
  show bS (A n) (k1 n) (k2 n)=_
  rw[ha n (by omega)]
  exact h n (by omega)
theorem ti {c:Prop} [Decidable c] {A B:Nat→Option γ}(h1:Total A) (h2:Total B):Total fun n=>if c then A n else B n:=by
 by_cases h:c
 ·simp only[if_pos h];exact h1
 ·simp only[if_neg h];exact h2
end
theorem t_F73 {s:ByteArray}(h:s.size≤maxLen):Total fun n=>F73 n s:=t_of (ev15 h)
theorem t_F74 {s:ByteArray}(h:s.size≤maxLen):Total fun n=>F74 n s:=t_of (ev13 h)
end Go.Proofs.YtjmofeakajdbiaaGreatDoor
end
set_option linter.unusedVariables false
noncomputable section
namespace Go.Proofs.YtjmofeakajdbiaaGreatDoor
open Go Go.AM
theorem t_F55 (l:List D):ListS tab 33 l→∀(z1:Int) (s2:ByteArray) (z4:Int),s2.size≤maxLen→Total fun n=>F55 n z1 s2 l z4:=by
 refine list_ind (P:=fun l=>ListS tab 33 l→∀(z1:Int) (s2:ByteArray) (z4:Int),s2.size≤maxLen→Total fun n=>F55 n z1 s2 l z4) (fun l ih h=>?_) l
 have t_end100:∀(z2 zi:Int) (z5:Int),Total fun n=>L100_2 n l z2 zi z5 false:=by
  intros
  exact tu (by simp only[L100_2,Bool.false_eq_true,if_false,lenF];exact ti tr tr)
 have t_loop100:∀(z2:Int) (i:Nat),i≤l.length→∀(z5:Int),Total fun n=>L100_1 n l z2 (i:Int) z5:=by
  intro z2
  refine down l.length ?_ ?_
  ·intros
   exact tu (by simp only[L100_1,lenF,Int.lt_irrefl,if_false];exact t_end100 _ _ _)
  ·intro i hi ihl z5
   obtain⟨x,hx,hm,hr⟩:=h.get hi
   obtain⟨a0,a1,a2,rfl,w0,w1,w2⟩:=rs33 hr
   have hrec:=fun z=>ih a2 (size_row (ag:=true) (sz:=3) hm (by simp)) w2 a0 a1 z w1
   have t_101:∀{z:Int},Total fun n=>F101 n a0 a1 a2 z:=by
    intros
    exact tu (by simp only[F101,letF];exact t1 (hrec _) fun _=>tr)
   refine tu ?_
   simp only[L100_1,lenF,if_pos (ilt hi)]
   refine ti ?_ (t_end100 _ _ _)
   refine tu ?_
   simp only[L100_2,if_true,getF_nat hx,ds_t33,letF,wrap_succ hi h.1,letB]
   exact t2 t_101 fun _ _=>ti tr ((ihl _))
 have t_F100:∀{z2 z3:Int},Total fun n=>F100 n l z2 z3:=by
  intros
  exact tu (by simp only[F100];exact t_loop100 _ 0 (Nat.zero_le _) _)
 intro z1 s2 z4 hs
 have t_L55_7:∀{z1 z4 z12:Int} {b13:Bool},Total (fun n=>L55_7 n z1 l z4 z12 b13):=by
  intros
  exact tu (by simp only[L55_7,lenF];exact ti (ti (ti (ti (ti (t2 t_F100 fun _ _=>tr) tr) tr) tr) tr) tr)
 have t_L55_6:∀{z1 z4:Int} {b5 b10:Bool},Total (fun n=>L55_6 n z1 s2 l z4 b5 b10):=by
  intros
  exact tu (by simp only[L55_6];exact ti (t1 ((t_F73 ‹_›)) fun _=>t_L55_7) t_L55_7)
 have t_L55_5:∀{z1 z4:Int} {b5 b9:Bool},Total (fun n=>L55_5 n z1 s2 l z4 b5 b9):=by
  intros
  exact tu (by simp only[L55_5];exact ti t_L55_7 (ti t_L55_6 t_L55_6))
 have t_L55_4:∀{z1 z4:Int} {b5 b8:Bool},Total (fun n=>L55_4 n z1 s2 l z4 b5 b8):=by
  intros
  exact tu (by simp only[L55_4];exact ti t_L55_5 (ti t_L55_5 t_L55_5))
 have t_L55_3:∀{z1 z4:Int} {b5 b7:Bool},Total (fun n=>L55_3 n z1 s2 l z4 b5 b7):=by
  intros
  exact tu (by simp only[L55_3];exact ti t_L55_5 (ti t_L55_4 t_L55_4))
 have t_L55_2:∀{z1 z4:Int} {b5 b6:Bool},Total (fun n=>L55_2 n z1 s2 l z4 b5 b6):=by
  intros
  exact tu (by simp only[L55_2];exact ti t_L55_5 (ti t_L55_3 t_L55_3))
 have t_L55_1:∀{z1 z4:Int} {b5:Bool},Total (fun n=>L55_1 n z1 s2 l z4 b5):=by
  intros
  exact tu (by simp only[L55_1];exact ti t_L55_2 t_L55_2)
 exact tu (by simp only[F55];exact ti t_L55_1 t_L55_1)
theorem t_F52 {s:ByteArray}{l:List D}(hs:s.size≤maxLen) (h:ListS tab 9 l):Total fun n=>F52 n s l:=t_of (ev24 hs h)
theorem t_F93a {l:List D}(h:ListS tab 9 l) {z2:Int}:Total fun n=>F93x1 n l z2:=by
 have t_end93x1:∀(z2 zi:Int),Total fun n=>L93x1_2 n l z2 zi  false:=by
  intros
  exact tu (by simp only[L93x1_2,Bool.false_eq_true,if_false,lenF];exact ti tr tr)
 have t_loop93x1:∀(z2:Int) (i:Nat),i≤l.length→Total fun n=>L93x1_1 n l z2 (i:Int):=by
  intro z2
  refine down l.length ?_ ?_
  ·intros
   exact tu (by simp only[L93x1_1,lenF,Int.lt_irrefl,if_false];exact t_end93x1 _ _)
  ·intro i hi ihl
   obtain⟨x,hx,hm,hr⟩:=h.get hi
   obtain⟨a0,rfl,w0⟩:=rs9 hr
   refine tu ?_
   simp only[L93x1_1,lenF,if_pos (ilt hi)]
   refine ti ?_ (t_end93x1 _ _)
   refine tu ?_
   simp only[L93x1_2,if_true,getF_nat hx,ds_str,letF,wrap_succ hi h.1,letB]
   exact t1 ((t_F74 w0)) fun _=>ti tr ihl
 have t_F93x1:∀{z2:Int},Total fun n=>F93x1 n l z2:=by
  intros
  exact (by unfold F93x1;exact t_loop93x1 _ 0 (Nat.zero_le _))
 exact t_F93x1
theorem t_L95_26:∀{z1:Int}{b27:Bool},Total (fun n=>L95_26 n z1 b27):=by
 intros
 exact tu (by simp only[L95_26];exact ti tr (ti (ti tr tr) tr))
theorem t_L95_25:∀{z1:Int}{b26:Bool},Total (fun n=>L95_25 n z1 b26):=by
 intros
 exact tu (by simp only[L95_25];exact ti t_L95_26 (ti t_L95_26 t_L95_26))
theorem t_L95_24:∀{z1:Int}{b25:Bool},Total (fun n=>L95_24 n z1 b25):=by
 intros
 exact tu (by simp only[L95_24];exact ti t_L95_26 (ti t_L95_25 t_L95_25))
theorem t_L95_23:∀{z1:Int}{b24:Bool},Total (fun n=>L95_23 n z1 b24):=by
 intros
 exact tu (by simp only[L95_23];exact ti t_L95_26 (ti t_L95_24 t_L95_24))
theorem t_L95_22:∀{z1:Int}{b23:Bool},Total (fun n=>L95_22 n z1 b23):=by
 intros
 exact tu (by simp only[L95_22];exact ti t_L95_26 (ti t_L95_23 t_L95_23))
theorem t_L95_21:∀{z1:Int}{b22:Bool},Total (fun n=>L95_21 n z1 b22):=by
 intros
 exact tu (by simp only[L95_21];exact ti t_L95_26 (ti t_L95_22 t_L95_22))
theorem t_L95_20:∀{z1:Int}{b21:Bool},Total (fun n=>L95_20 n z1 b21):=by
 intros
 exact tu (by simp only[L95_20];exact ti t_L95_26 (ti t_L95_21 t_L95_21))
theorem t_L95_19:∀{z1:Int}{b20:Bool},Total (fun n=>L95_19 n z1 b20):=by
 intros
 exact tu (by simp only[L95_19];exact ti t_L95_26 (ti t_L95_20 t_L95_20))
theorem t_L95_18:∀{z1:Int}{b19:Bool},Total (fun n=>L95_18 n z1 b19):=by
 intros
 exact tu (by simp only[L95_18];exact ti t_L95_26 (ti t_L95_19 t_L95_19))
theorem t_L95_17:∀{z1:Int}{b18:Bool},Total (fun n=>L95_17 n z1 b18):=by
 intros
 exact tu (by simp only[L95_17];exact ti tr (ti t_L95_18 t_L95_18))
theorem t_L95_16:∀{z1:Int}{b17:Bool},Total (fun n=>L95_16 n z1 b17):=by
 intros
 exact tu (by simp only[L95_16];exact ti tr (ti t_L95_17 t_L95_17))
theorem t_L95_15:∀{z1:Int}{b16:Bool},Total (fun n=>L95_15 n z1 b16):=by
 intros
 exact tu (by simp only[L95_15];exact ti t_L95_16 (ti t_L95_16 t_L95_16))
theorem t_L95_14:∀{z1:Int}{b15:Bool},Total (fun n=>L95_14 n z1 b15):=by
 intros
 exact tu (by simp only[L95_14];exact ti tr (ti t_L95_15 t_L95_15))
theorem t_L95_13:∀{z1:Int}{b14:Bool},Total (fun n=>L95_13 n z1 b14):=by
 intros
 exact tu (by simp only[L95_13];exact ti t_L95_14 (ti t_L95_14 t_L95_14))
theorem t_L95_12:∀{z1:Int}{b13:Bool},Total (fun n=>L95_12 n z1 b13):=by
 intros
 exact tu (by simp only[L95_12];exact ti t_L95_14 (ti t_L95_13 t_L95_13))
theorem t_L95_11:∀{z1:Int}{b12:Bool},Total (fun n=>L95_11 n z1 b12):=by
 intros
 exact tu (by simp only[L95_11];exact ti t_L95_14 (ti t_L95_12 t_L95_12))
theorem t_L95_10:∀{z1:Int}{b11:Bool},Total (fun n=>L95_10 n z1 b11):=by
 intros
 exact tu (by simp only[L95_10];exact ti tr (ti t_L95_11 t_L95_11))
theorem t_L95_9:∀{z1:Int}{b10:Bool},Total (fun n=>L95_9 n z1 b10):=by
 intros
 exact tu (by simp only[L95_9];exact ti t_L95_10 (ti t_L95_10 t_L95_10))
theorem t_L95_8:∀{z1:Int}{b9:Bool},Total (fun n=>L95_8 n z1 b9):=by
 intros
 exact tu (by simp only[L95_8];exact ti t_L95_10 (ti t_L95_9 t_L95_9))
theorem t_L95_7:∀{z1:Int}{b8:Bool},Total (fun n=>L95_7 n z1 b8):=by
 intros
 exact tu (by simp only[L95_7];exact ti t_L95_10 (ti t_L95_8 t_L95_8))
theorem t_L95_6:∀{z1:Int}{b7:Bool},Total (fun n=>L95_6 n z1 b7):=by
 intros
 exact tu (by simp only[L95_6];exact ti t_L95_10 (ti t_L95_7 t_L95_7))
theorem t_L95_5:∀{z1:Int}{b6:Bool},Total (fun n=>L95_5 n z1 b6):=by
 intros
 exact tu (by simp only[L95_5];exact ti t_L95_10 (ti t_L95_6 t_L95_6))
theorem t_L95_4:∀{z1:Int}{b5:Bool},Total (fun n=>L95_4 n z1 b5):=by
 intros
 exact tu (by simp only[L95_4];exact ti t_L95_10 (ti t_L95_5 t_L95_5))
theorem t_L95_3:∀{z1:Int}{b4:Bool},Total (fun n=>L95_3 n z1 b4):=by
 intros
 exact tu (by simp only[L95_3];exact ti tr (ti t_L95_4 t_L95_4))
theorem t_L95_2:∀{z1:Int}{b3:Bool},Total (fun n=>L95_2 n z1 b3):=by
 intros
 exact tu (by simp only[L95_2];exact ti t_L95_3 (ti t_L95_3 t_L95_3))
theorem t_L95_1:∀{z1:Int}{b2:Bool},Total (fun n=>L95_1 n z1 b2):=by
 intros
 exact tu (by simp only[L95_1];exact ti t_L95_3 (ti t_L95_2 t_L95_2))
theorem t_F95:∀{z1:Int},Total (fun n=>F95 n z1):=by
 intros
 exact (by unfold F95;exact ti t_L95_1 t_L95_1)
theorem t_L96_7:∀{b21 b22 b23:Bool},Total (fun n=>L96_7 n b21 b22 b23):=by
 intros
 exact tu (by simp only[L96_7];exact ti (ti tr tr) tr)
theorem t_L96_6:∀{s3 s4:ByteArray}{b9 b10 b11 b18:Bool},s3.size≤maxLen→s4.size≤maxLen→Total (fun n=>L96_6 n s3 s4 b9 b10 b11 b18):=by
 intros
 exact tu (by simp only[L96_6];exact ti (t1 ((t_F73 ‹_›)) fun _=>t1 ((t_F73 ‹_›)) fun _=>t_L96_7) t_L96_7)
theorem t_L96_5:∀{z1:Int}{s3 s4:ByteArray}{b9 b10 b11 b16:Bool},s3.size≤maxLen→s4.size≤maxLen→Total (fun n=>L96_5 n z1 s3 s4 b9 b10 b11 b16):=by
 intros
 exact tu (by simp only[L96_5];exact ti (t1 ((t_F73 ‹_›)) fun _=>t_L96_7) (ti ((t_L96_6 ‹_› ‹_›)) ((t_L96_6 ‹_› ‹_›))))
theorem t_L96_4:∀{z1:Int}{s3 s4:ByteArray}{b9 b10 b11 b14:Bool},s3.size≤maxLen→s4.size≤maxLen→Total (fun n=>L96_4 n z1 s3 s4 b9 b10 b11 b14):=by
 intros
 exact tu (by simp only[L96_4];exact ti (t1 ((t_F74 ‹_›)) fun _=>t_L96_7) (ti ((t_L96_5 ‹_› ‹_›)) ((t_L96_5 ‹_› ‹_›))))
theorem t_L96_3:∀{z1 z2:Int}{s3 s4:ByteArray}{b9 b10 b11 b13:Bool},s3.size≤maxLen→s4.size≤maxLen→Total (fun n=>L96_3 n z1 z2 s3 s4 b9 b10 b11 b13):=by
 intros
 exact tu (by simp only[L96_3];exact ti (ti t_L96_7 (ti t_L96_7 t_L96_7)) (ti ((t_L96_4 ‹_› ‹_›)) ((t_L96_4 ‹_› ‹_›))))
theorem t_L96_2:∀{z1 z2:Int}{s3 s4:ByteArray}{b9 b10 b11 b12:Bool},s3.size≤maxLen→s4.size≤maxLen→Total (fun n=>L96_2 n z1 z2 s3 s4 b9 b10 b11 b12):=by
 intros
 exact tu (by simp only[L96_2];exact ti (ti t_L96_7 t_L96_7) (ti ((t_L96_3 ‹_› ‹_›)) ((t_L96_3 ‹_› ‹_›))))
theorem t_L96_1:∀{z1 z2:Int}{s3 s4:ByteArray}{b9 b10 b11:Bool},s3.size≤maxLen→s4.size≤maxLen→Total (fun n=>L96_1 n z1 z2 s3 s4 b9 b10 b11):=by
 intros
 exact tu (by simp only[L96_1];exact ti ((t_L96_2 ‹_› ‹_›)) ((t_L96_2 ‹_› ‹_›)))
theorem t_F96:∀{z1 z2:Int}{s3 s4 s5:ByteArray}{l6 l7:List D}{z8:Int},s3.size≤maxLen→s4.size≤maxLen→Total (fun n=>F96 n z1 z2 s3 s4 s5 l6 l7 z8):=by
 intros
 exact (by unfold F96;exact ti (ti (ti ((t_L96_1 ‹_› ‹_›)) ((t_L96_1 ‹_› ‹_›))) (ti ((t_L96_1 ‹_› ‹_›)) ((t_L96_1 ‹_› ‹_›)))) (ti (ti ((t_L96_1 ‹_› ‹_›)) ((t_L96_1 ‹_› ‹_›))) (ti ((t_L96_1 ‹_› ‹_›)) ((t_L96_1 ‹_› ‹_›)))))
theorem t_F126:∀{s1:ByteArray}{l2:List D},Total (fun n=>F126 n s1 l2):=by
 intros
 exact (by unfold F126;simp only[lenF];exact ti (ti tr tr) tr)
theorem t_F53:∀{z1 z2:Int}{s3 s4 s5:ByteArray}{l6 l7:List D}{z8:Int},Total (fun n=>F53 n z1 z2 s3 s4 s5 l6 l7 z8):=by
 intros
 exact (by unfold F53;exact ti tr (ti tr tr))
theorem t_L97_1:∀{s5:ByteArray}{l6 l7:List D}{b11:Bool},s5.size≤maxLen→ListS tab 9 l6→Total (fun n=>L97_1 n s5 l6 l7 b11):=by
 intros
 exact tu (by simp only[L97_1,lenF];exact ti (ti (ti (t1 ((t_F93a ‹_›)) fun _=>tr) tr) tr) (t1 t_F126 fun _=>tr))
theorem t_F97:∀{z1 z2:Int}{s3 s4 s5:ByteArray}{l6 l7:List D}{z8:Int}{b9:Bool},s5.size≤maxLen→ListS tab 9 l6→Total (fun n=>F97 n z1 z2 s3 s4 s5 l6 l7 z8 b9):=by
 intros
 exact (by unfold F97;exact ti (t1 ((t_F52 ‹_› ‹_›)) fun _=>tr) (ti ((t_L97_1 ‹_› ‹_›)) ((t_L97_1 ‹_› ‹_›))))
theorem t_F54 (l:List D):ListS tab 39 l→∀(z1 z2:Int) (s3 s4 s5:ByteArray) (l6:List D) (z8 z9:Int),s3.size≤maxLen→s4.size≤maxLen→s5.size≤maxLen→ListS tab 9 l6→Total fun n=>F54 n z1 z2 s3 s4 s5 l6 l z8 z9:=by
 refine list_ind (P:=fun l=>ListS tab 39 l→∀(z1 z2:Int) (s3 s4 s5:ByteArray) (l6:List D) (z8 z9:Int),s3.size≤maxLen→s4.size≤maxLen→s5.size≤maxLen→ListS tab 9 l6→Total fun n=>F54 n z1 z2 s3 s4 s5 l6 l z8 z9) (fun l ih h=>?_) l
 intro z1 z2 s3 s4 s5 l6 z8 z9 h3 h4 h5 h6
 have t_end98:∀(z2 zi:Int) (z13 z14:Int) (s15 s16 s17:ByteArray) (l18 l19:List D) (z20 z21:Int),Total fun n=>L98_2 n l z2 zi z13 z14 s15 s16 s17 l18 l19 z20 z21 false:=by
  intros
  exact tu (by simp only[L98_2,Bool.false_eq_true,if_false,lenF];exact ti tr tr)
 have t_loop98:∀(z2:Int) (i:Nat),i≤l.length→∀(z13 z14:Int) (s15 s16 s17:ByteArray) (l18 l19:List D) (z20 z21:Int),Total fun n=>L98_1 n l z2 (i:Int) z13 z14 s15 s16 s17 l18 l19 z20 z21:=by
  intro z2
  refine down l.length ?_ ?_
  ·intros
   exact tu (by simp only[L98_1,lenF,Int.lt_irrefl,if_false];exact t_end98 _ _ _ _ _ _ _ _ _ _ _)
  ·intro i hi ihl z13 z14 s15 s16 s17 l18 l19 z20 z21
   obtain⟨x,hx,hm,hr⟩:=h.get hi
   obtain⟨a0,a1,a2,a3,a4,a5,a6,a7,rfl,w0,w1,w2,w3,w4,w5,w6,w7⟩:=rs39 hr
   have hrec:=fun z=>ih a6 (size_row (ag:=true) (sz:=8) hm (by simp)) w6 a0 a1 a2 a3 a4 a5 a7 z w2 w3 w4 w5
   have t_99:∀{z9 z10:Int} {s11 s12 s13:ByteArray} {l14 l15:List D} {z16 z17:Int},Total fun n=>F99 n a0 a1 a2 a3 a4 a5 a6 a7 z9 z10 s11 s12 s13 l14 l15 z16 z17:=by
    intros
    exact tu (by simp only[F99,letF,letB];exact ti (t1 ((hrec _)) fun _=>tr) (t1 t_F53 fun _=>ti (t1 ((hrec _)) fun _=>tr) tr))
   refine tu ?_
   simp only[L98_1,lenF,if_pos (ilt hi)]
   refine ti ?_ (t_end98 _ _ _ _ _ _ _ _ _ _ _)
   refine tu ?_
   simp only[L98_2,if_true,getF_nat hx,ds_t39,letF,wrap_succ hi h.1,letB]
   exact ta t_99 fun _ _ _ _ _ _ _ _ _ _=>ti tr ((ihl _ _ _ _ _ _ _ _ _))
 have t_F98:∀{z2 z3 z4:Int} {s5 s6 s7:ByteArray} {l8 l9:List D} {z10 z11:Int},Total fun n=>F98 n l z2 z3 z4 s5 s6 s7 l8 l9 z10 z11:=by
  intros
  exact tu (by simp only[F98];exact t_loop98 _ 0 (Nat.zero_le _) _ _ _ _ _ _ _ _ _)
 have t_L54_1:∀{z1 z2 z8 z9 z12:Int} {b20:Bool},Total (fun n=>L54_1 n z1 z2 s3 s4 s5 l6 l z8 z9 z12 b20):=by
  intros
  exact tu (by simp only[L54_1];exact ti tr (ta t_F98 fun _ _ _ _ _ _ _ _ _ _=>tr))
 exact tu (by simp only[F54,lenF,letB];exact t4 t_F95 fun _ _ _ _=>ti t_L54_1 (ti t_L54_1 (t1 ((t_F96 h3 h4)) fun _=>ti t_L54_1 (ti t_L54_1 (t1 ((t_F97 h5 h6)) fun _=>t_L54_1)))))
end Go.Proofs.YtjmofeakajdbiaaGreatDoor
end
set_option linter.unusedVariables false
noncomputable section
namespace Go.Proofs.YtjmofeakajdbiaaGreatDoor
open Go Go.AM
theorem t_F72:∀{z1:Int}{s2:ByteArray}{l3:List D},Total (fun n=>F72 n z1 s2 l3):=by
 intros
 exact (by unfold F72;simp only[lenF];exact ti (ti (ti tr tr) tr) tr)
theorem t_L124_13:∀{b29:Bool},Total (fun n=>L124_13 n b29):=by
 intros
 exact tu (by simp only[L124_13];exact ti tr tr)
theorem t_L124_12:∀{z1:Int}{b28:Bool},Total (fun n=>L124_12 n z1 b28):=by
 intros
 exact tu (by simp only[L124_12];exact ti tr (ti t_L124_13 t_L124_13))
theorem t_L124_11:∀{z1:Int}{l4:List D}{b26:Bool},Total (fun n=>L124_11 n z1 l4 b26):=by
 intros
 exact tu (by simp only[L124_11,lenF];exact ti tr (ti t_L124_12 t_L124_12))
theorem t_L124_10:∀{z1:Int}{l4:List D}{b25:Bool},Total (fun n=>L124_10 n z1 l4 b25):=by
 intros
 exact tu (by simp only[L124_10];exact ti tr (ti t_L124_11 t_L124_11))
theorem t_L124_9:∀{z1:Int}{l4:List D}{b24:Bool},Total (fun n=>L124_9 n z1 l4 b24):=by
 intros
 exact tu (by simp only[L124_9];exact ti t_L124_10 (ti t_L124_10 t_L124_10))
theorem t_L124_8:∀{z1:Int}{l4:List D}{b23:Bool},Total (fun n=>L124_8 n z1 l4 b23):=by
 intros
 exact tu (by simp only[L124_8];exact ti tr (ti t_L124_9 t_L124_9))
theorem t_L124_7:∀{z1:Int}{l4:List D}{b22:Bool},Total (fun n=>L124_7 n z1 l4 b22):=by
 intros
 exact tu (by simp only[L124_7];exact ti tr (ti t_L124_8 t_L124_8))
theorem t_L124_6:∀{z1:Int}{l4:List D}{b21:Bool},Total (fun n=>L124_6 n z1 l4 b21):=by
 intros
 exact tu (by simp only[L124_6];exact ti tr (ti t_L124_7 t_L124_7))
theorem t_L124_5:∀{z1:Int}{l4:List D}{b20:Bool},Total (fun n=>L124_5 n z1 l4 b20):=by
 intros
 exact tu (by simp only[L124_5];exact ti tr (ti t_L124_6 t_L124_6))
theorem t_L124_4:∀{z1:Int}{l4:List D}{b19:Bool},Total (fun n=>L124_4 n z1 l4 b19):=by
 intros
 exact tu (by simp only[L124_4];exact ti tr (ti t_L124_5 t_L124_5))
theorem t_L124_3:∀{z1:Int}{l4:List D}{b18:Bool},Total (fun n=>L124_3 n z1 l4 b18):=by
 intros
 exact tu (by simp only[L124_3];exact ti tr (ti t_L124_4 t_L124_4))
theorem t_L124_2:∀{z1:Int}{l4:List D}{b17:Bool},Total (fun n=>L124_2 n z1 l4 b17):=by
 intros
 exact tu (by simp only[L124_2];exact ti tr (ti t_L124_3 t_L124_3))
theorem t_L124_1:∀{z1:Int}{l4:List D}{b16:Bool},Total (fun n=>L124_1 n z1 l4 b16):=by
 intros
 exact tu (by simp only[L124_1];exact ti tr (ti t_L124_2 t_L124_2))
theorem t_F124:∀{z1:Int}{s2 s3:ByteArray}{l4:List D}{z5:Int}{s6:ByteArray}{l7:List D}{z8:Int}{s9:ByteArray}{l10 l11 l12 l13 l14:List D}{z15:Int},Total (fun n=>F124 n z1 s2 s3 l4 z5 s6 l7 z8 s9 l10 l11 l12 l13 l14 z15):=by
 intros
 exact (by unfold F124;exact ti t_L124_1 t_L124_1)
theorem t_L125_1:∀{z8:Int}{b16:Bool},Total (fun n=>L125_1 n z8 b16):=by
 intros
 exact tu (by simp only[L125_1];exact ti (ti (ti tr tr) tr) (ti tr tr))
theorem t_F125:∀{z1:Int}{s2 s3:ByteArray}{l4:List D}{z5:Int}{s6:ByteArray}{l7:List D}{z8:Int}{s9:ByteArray}{l10 l11 l12 l13 l14:List D}{z15:Int},Total (fun n=>F125 n z1 s2 s3 l4 z5 s6 l7 z8 s9 l10 l11 l12 l13 l14 z15):=by
 intros
 exact (by unfold F125;exact ti t_L125_1 t_L125_1)
theorem t_F145:∀{s1:ByteArray},Total (fun n=>F145 n s1):=by
 intros
 exact (by unfold F145;exact ti tr tr)
theorem t_F54e {l:List D}(h:ListS tab 39 l) {z1 z2:Int}{s3 s4 s5:ByteArray}{l6:List D}{z8 z9:Int}(h3:s3.size≤maxLen) (h4:s4.size≤maxLen) (h5:s5.size≤maxLen) (h6:ListS tab 9 l6):Total fun n=>F54 n z1 z2 s3 s4 s5 l6 l z8 z9:=t_F54 l h _ _ _ _ _ _ _ _ h3 h4 h5 h6
theorem t_F55e {l:List D}(h:ListS tab 33 l) {z1:Int}{s2:ByteArray}{z4:Int}(hs:s2.size≤maxLen):Total fun n=>F55 n z1 s2 l z4:=t_F55 l h _ _ _ hs
theorem t_F128:∀{z1 z2:Int}{s3 s4 s5:ByteArray}{l6 l7:List D}{z8 z9 z10:Int}{b11 b12 b13 b14 b15 b16:Bool}{z17:Int},s3.size≤maxLen→s4.size≤maxLen→s5.size≤maxLen→ListS tab 9 l6→ListS tab 39 l7→Total (fun n=>F128 n z1 z2 s3 s4 s5 l6 l7 z8 z9 z10 b11 b12 b13 b14 b15 b16 z17):=by
 intros
 exact (by unfold F128;simp only[letF,letB];exact ti (t1 ((t_F54e ‹_› ‹_› ‹_› ‹_› ‹_›)) fun _=>tr) (t1 t_F53 fun _=>ti (t1 ((t_F54e ‹_› ‹_› ‹_› ‹_› ‹_›)) fun _=>tr) tr))
theorem t_F128x1:∀{z1 z2:Int}{s3 s4 s5:ByteArray}{l6 l7:List D}{z8 z9 z10:Int}{b11 b12 b13 b14 b15 b16:Bool}{z17:Int},s3.size≤maxLen→s4.size≤maxLen→s5.size≤maxLen→ListS tab 9 l6→ListS tab 39 l7→Total (fun n=>F128x1 n z1 z2 s3 s4 s5 l6 l7 z8 z9 z10 b11 b12 b13 b14 b15 b16 z17):=by
 intros
 exact (by unfold F128x1;simp only[letF,letB];exact ti (t1 ((t_F54e ‹_› ‹_› ‹_› ‹_› ‹_›)) fun _=>tr) (t1 t_F53 fun _=>ti (t1 ((t_F54e ‹_› ‹_› ‹_› ‹_› ‹_›)) fun _=>tr) tr))
theorem t_F128x2:∀{z1 z2:Int}{s3 s4 s5:ByteArray}{l6 l7:List D}{z8 z9 z10:Int}{b11 b12 b13 b14 b15 b16:Bool}{z17:Int},s3.size≤maxLen→s4.size≤maxLen→s5.size≤maxLen→ListS tab 9 l6→ListS tab 39 l7→Total (fun n=>F128x2 n z1 z2 s3 s4 s5 l6 l7 z8 z9 z10 b11 b12 b13 b14 b15 b16 z17):=by
 intros
 exact (by unfold F128x2;simp only[letF,letB];exact ti (t1 ((t_F54e ‹_› ‹_› ‹_› ‹_› ‹_›)) fun _=>tr) (t1 t_F53 fun _=>ti (t1 ((t_F54e ‹_› ‹_› ‹_› ‹_› ‹_›)) fun _=>tr) tr))
theorem t_F128x3:∀{z1 z2:Int}{s3 s4 s5:ByteArray}{l6 l7:List D}{z8 z9 z10:Int}{b11 b12 b13 b14 b15 b16:Bool}{z17:Int},s3.size≤maxLen→s4.size≤maxLen→s5.size≤maxLen→ListS tab 9 l6→ListS tab 39 l7→Total (fun n=>F128x3 n z1 z2 s3 s4 s5 l6 l7 z8 z9 z10 b11 b12 b13 b14 b15 b16 z17):=by
 intros
 exact (by unfold F128x3;simp only[letF,letB];exact ti (t1 ((t_F54e ‹_› ‹_› ‹_› ‹_› ‹_›)) fun _=>tr) (t1 t_F53 fun _=>ti (t1 ((t_F54e ‹_› ‹_› ‹_› ‹_› ‹_›)) fun _=>tr) tr))
theorem t_F128x4:∀{z1 z2:Int}{s3 s4 s5:ByteArray}{l6 l7:List D}{z8 z9 z10:Int}{b11 b12 b13 b14 b15 b16:Bool}{z17:Int},s3.size≤maxLen→s4.size≤maxLen→s5.size≤maxLen→ListS tab 9 l6→ListS tab 39 l7→Total (fun n=>F128x4 n z1 z2 s3 s4 s5 l6 l7 z8 z9 z10 b11 b12 b13 b14 b15 b16 z17):=by
 intros
 exact (by unfold F128x4;simp only[letF,letB];exact ti (t1 ((t_F54e ‹_› ‹_› ‹_› ‹_› ‹_›)) fun _=>tr) (t1 t_F53 fun _=>ti (t1 ((t_F54e ‹_› ‹_› ‹_› ‹_› ‹_›)) fun _=>tr) tr))
theorem t_F98x1 {l:List D}(h:ListS tab 39 l):∀{z2 z3 z4:Int}{b5 b6 b7 b8 b9 b10:Bool}{z11:Int},Total fun n=>F98x1 n l z2 z3 z4 b5 b6 b7 b8 b9 b10 z11:=by
 have t_end98x1:∀(z2 zi:Int) (z13 z14:Int) (b15 b16 b17 b18 b19 b20:Bool) (z21:Int),Total fun n=>L98x1_2 n l z2 zi z13 z14 b15 b16 b17 b18 b19 b20 z21 false:=by
  intros
  exact tu (by simp only[L98x1_2,Bool.false_eq_true,if_false,lenF];exact ti tr tr)
 have t_loop98x1:∀(z2:Int) (i:Nat),i≤l.length→∀(z13 z14:Int) (b15 b16 b17 b18 b19 b20:Bool) (z21:Int),Total fun n=>L98x1_1 n l z2 (i:Int) z13 z14 b15 b16 b17 b18 b19 b20 z21:=by
  intro z2
  refine down l.length ?_ ?_
  ·intros
   exact tu (by simp only[L98x1_1,lenF,Int.lt_irrefl,if_false];exact t_end98x1 _ _ _ _ _ _ _ _ _ _ _)
  ·intro i hi ihl z13 z14 b15 b16 b17 b18 b19 b20 z21
   obtain⟨x,hx,hm,hr⟩:=h.get hi
   obtain⟨a0,a1,a2,a3,a4,a5,a6,a7,rfl,w0,w1,w2,w3,w4,w5,w6,w7⟩:=rs39 hr
   refine tu ?_
   simp only[L98x1_1,lenF,if_pos (ilt hi)]
   refine ti ?_ (t_end98x1 _ _ _ _ _ _ _ _ _ _ _)
   refine tu ?_
   simp only[L98x1_2,if_true,getF_nat hx,ds_t39,letF,wrap_succ hi h.1,letB]
   exact ta ((t_F128 w2 w3 w4 w5 w6)) fun _ _ _ _ _ _ _ _ _ _=>ti tr ((ihl _ _ _ _ _ _ _ _ _))
 have t_F98x1:∀{z2 z3 z4:Int} {b5 b6 b7 b8 b9 b10:Bool} {z11:Int},Total fun n=>F98x1 n l z2 z3 z4 b5 b6 b7 b8 b9 b10 z11:=by
  intros
  exact (by unfold F98x1;exact t_loop98x1 _ 0 (Nat.zero_le _) _ _ _ _ _ _ _ _ _)
 exact @t_F98x1
theorem t_F98x2 {l:List D}(h:ListS tab 39 l):∀{z2 z3 z4:Int}{b5 b6 b7 b8 b9 b10:Bool}{z11:Int},Total fun n=>F98x2 n l z2 z3 z4 b5 b6 b7 b8 b9 b10 z11:=by
 have t_end98x2:∀(z2 zi:Int) (z13 z14:Int) (b15 b16 b17 b18 b19 b20:Bool) (z21:Int),Total fun n=>L98x2_2 n l z2 zi z13 z14 b15 b16 b17 b18 b19 b20 z21 false:=by
  intros
  exact tu (by simp only[L98x2_2,Bool.false_eq_true,if_false,lenF];exact ti tr tr)
 have t_loop98x2:∀(z2:Int) (i:Nat),i≤l.length→∀(z13 z14:Int) (b15 b16 b17 b18 b19 b20:Bool) (z21:Int),Total fun n=>L98x2_1 n l z2 (i:Int) z13 z14 b15 b16 b17 b18 b19 b20 z21:=by
  intro z2
  refine down l.length ?_ ?_
  ·intros
   exact tu (by simp only[L98x2_1,lenF,Int.lt_irrefl,if_false];exact t_end98x2 _ _ _ _ _ _ _ _ _ _ _)
  ·intro i hi ihl z13 z14 b15 b16 b17 b18 b19 b20 z21
   obtain⟨x,hx,hm,hr⟩:=h.get hi
   obtain⟨a0,a1,a2,a3,a4,a5,a6,a7,rfl,w0,w1,w2,w3,w4,w5,w6,w7⟩:=rs39 hr
   refine tu ?_
   simp only[L98x2_1,lenF,if_pos (ilt hi)]
   refine ti ?_ (t_end98x2 _ _ _ _ _ _ _ _ _ _ _)
   refine tu ?_
   simp only[L98x2_2,if_true,getF_nat hx,ds_t39,letF,wrap_succ hi h.1,letB]
   exact ta ((t_F128x1 w2 w3 w4 w5 w6)) fun _ _ _ _ _ _ _ _ _ _=>ti tr ((ihl _ _ _ _ _ _ _ _ _))
 have t_F98x2:∀{z2 z3 z4:Int} {b5 b6 b7 b8 b9 b10:Bool} {z11:Int},Total fun n=>F98x2 n l z2 z3 z4 b5 b6 b7 b8 b9 b10 z11:=by
  intros
  exact (by unfold F98x2;exact t_loop98x2 _ 0 (Nat.zero_le _) _ _ _ _ _ _ _ _ _)
 exact @t_F98x2
theorem t_F98x3 {l:List D}(h:ListS tab 39 l):∀{z2 z3 z4:Int}{b5 b6 b7 b8 b9 b10:Bool}{z11:Int},Total fun n=>F98x3 n l z2 z3 z4 b5 b6 b7 b8 b9 b10 z11:=by
 have t_end98x3:∀(z2 zi:Int) (z13 z14:Int) (b15 b16 b17 b18 b19 b20:Bool) (z21:Int),Total fun n=>L98x3_2 n l z2 zi z13 z14 b15 b16 b17 b18 b19 b20 z21 false:=by
  intros
  exact tu (by simp only[L98x3_2,Bool.false_eq_true,if_false,lenF];exact ti tr tr)
 have t_loop98x3:∀(z2:Int) (i:Nat),i≤l.length→∀(z13 z14:Int) (b15 b16 b17 b18 b19 b20:Bool) (z21:Int),Total fun n=>L98x3_1 n l z2 (i:Int) z13 z14 b15 b16 b17 b18 b19 b20 z21:=by
  intro z2
  refine down l.length ?_ ?_
  ·intros
   exact tu (by simp only[L98x3_1,lenF,Int.lt_irrefl,if_false];exact t_end98x3 _ _ _ _ _ _ _ _ _ _ _)
  ·intro i hi ihl z13 z14 b15 b16 b17 b18 b19 b20 z21
   obtain⟨x,hx,hm,hr⟩:=h.get hi
   obtain⟨a0,a1,a2,a3,a4,a5,a6,a7,rfl,w0,w1,w2,w3,w4,w5,w6,w7⟩:=rs39 hr
   refine tu ?_
   simp only[L98x3_1,lenF,if_pos (ilt hi)]
   refine ti ?_ (t_end98x3 _ _ _ _ _ _ _ _ _ _ _)
   refine tu ?_
   simp only[L98x3_2,if_true,getF_nat hx,ds_t39,letF,wrap_succ hi h.1,letB]
   exact ta ((t_F128x2 w2 w3 w4 w5 w6)) fun _ _ _ _ _ _ _ _ _ _=>ti tr ((ihl _ _ _ _ _ _ _ _ _))
 have t_F98x3:∀{z2 z3 z4:Int} {b5 b6 b7 b8 b9 b10:Bool} {z11:Int},Total fun n=>F98x3 n l z2 z3 z4 b5 b6 b7 b8 b9 b10 z11:=by
  intros
  exact (by unfold F98x3;exact t_loop98x3 _ 0 (Nat.zero_le _) _ _ _ _ _ _ _ _ _)
 exact @t_F98x3
theorem t_F98x4 {l:List D}(h:ListS tab 39 l):∀{z2 z3 z4:Int}{b5 b6 b7 b8 b9 b10:Bool}{z11:Int},Total fun n=>F98x4 n l z2 z3 z4 b5 b6 b7 b8 b9 b10 z11:=by
 have t_end98x4:∀(z2 zi:Int) (z13 z14:Int) (b15 b16 b17 b18 b19 b20:Bool) (z21:Int),Total fun n=>L98x4_2 n l z2 zi z13 z14 b15 b16 b17 b18 b19 b20 z21 false:=by
  intros
  exact tu (by simp only[L98x4_2,Bool.false_eq_true,if_false,lenF];exact ti tr tr)
 have t_loop98x4:∀(z2:Int) (i:Nat),i≤l.length→∀(z13 z14:Int) (b15 b16 b17 b18 b19 b20:Bool) (z21:Int),Total fun n=>L98x4_1 n l z2 (i:Int) z13 z14 b15 b16 b17 b18 b19 b20 z21:=by
  intro z2
  refine down l.length ?_ ?_
  ·intros
   exact tu (by simp only[L98x4_1,lenF,Int.lt_irrefl,if_false];exact t_end98x4 _ _ _ _ _ _ _ _ _ _ _)
  ·intro i hi ihl z13 z14 b15 b16 b17 b18 b19 b20 z21
   obtain⟨x,hx,hm,hr⟩:=h.get hi
   obtain⟨a0,a1,a2,a3,a4,a5,a6,a7,rfl,w0,w1,w2,w3,w4,w5,w6,w7⟩:=rs39 hr
   refine tu ?_
   simp only[L98x4_1,lenF,if_pos (ilt hi)]
   refine ti ?_ (t_end98x4 _ _ _ _ _ _ _ _ _ _ _)
   refine tu ?_
   simp only[L98x4_2,if_true,getF_nat hx,ds_t39,letF,wrap_succ hi h.1,letB]
   exact ta ((t_F128x3 w2 w3 w4 w5 w6)) fun _ _ _ _ _ _ _ _ _ _=>ti tr ((ihl _ _ _ _ _ _ _ _ _))
 have t_F98x4:∀{z2 z3 z4:Int} {b5 b6 b7 b8 b9 b10:Bool} {z11:Int},Total fun n=>F98x4 n l z2 z3 z4 b5 b6 b7 b8 b9 b10 z11:=by
  intros
  exact (by unfold F98x4;exact t_loop98x4 _ 0 (Nat.zero_le _) _ _ _ _ _ _ _ _ _)
 exact @t_F98x4
theorem t_F98x5 {l:List D}(h:ListS tab 39 l):∀{z2 z3 z4:Int}{b5 b6 b7 b8 b9 b10:Bool}{z11:Int},Total fun n=>F98x5 n l z2 z3 z4 b5 b6 b7 b8 b9 b10 z11:=by
 have t_end98x5:∀(z2 zi:Int) (z13 z14:Int) (b15 b16 b17 b18 b19 b20:Bool) (z21:Int),Total fun n=>L98x5_2 n l z2 zi z13 z14 b15 b16 b17 b18 b19 b20 z21 false:=by
  intros
  exact tu (by simp only[L98x5_2,Bool.false_eq_true,if_false,lenF];exact ti tr tr)
 have t_loop98x5:∀(z2:Int) (i:Nat),i≤l.length→∀(z13 z14:Int) (b15 b16 b17 b18 b19 b20:Bool) (z21:Int),Total fun n=>L98x5_1 n l z2 (i:Int) z13 z14 b15 b16 b17 b18 b19 b20 z21:=by
  intro z2
  refine down l.length ?_ ?_
  ·intros
   exact tu (by simp only[L98x5_1,lenF,Int.lt_irrefl,if_false];exact t_end98x5 _ _ _ _ _ _ _ _ _ _ _)
  ·intro i hi ihl z13 z14 b15 b16 b17 b18 b19 b20 z21
   obtain⟨x,hx,hm,hr⟩:=h.get hi
   obtain⟨a0,a1,a2,a3,a4,a5,a6,a7,rfl,w0,w1,w2,w3,w4,w5,w6,w7⟩:=rs39 hr
   refine tu ?_
   simp only[L98x5_1,lenF,if_pos (ilt hi)]
   refine ti ?_ (t_end98x5 _ _ _ _ _ _ _ _ _ _ _)
   refine tu ?_
   simp only[L98x5_2,if_true,getF_nat hx,ds_t39,letF,wrap_succ hi h.1,letB]
   exact ta ((t_F128x4 w2 w3 w4 w5 w6)) fun _ _ _ _ _ _ _ _ _ _=>ti tr ((ihl _ _ _ _ _ _ _ _ _))
 have t_F98x5:∀{z2 z3 z4:Int} {b5 b6 b7 b8 b9 b10:Bool} {z11:Int},Total fun n=>F98x5 n l z2 z3 z4 b5 b6 b7 b8 b9 b10 z11:=by
  intros
  exact (by unfold F98x5;exact t_loop98x5 _ 0 (Nat.zero_le _) _ _ _ _ _ _ _ _ _)
 exact @t_F98x5
theorem t_F129 {l:List D}(h:ListS tab 95 l) (hin:∀(s1 s2:ByteArray) (m:List D),.agg [.str s1,.str s2,.list true 15 m]∈l→∀z2 z3:Int,Total fun n=>F75x1 n m z2 z3):∀z2 z3:Int,Total fun n=>F129 n l z2 z3:=by
 have t_end129:∀(z2 zi:Int) (z5:Int),Total fun n=>L129_2 n l z2 zi z5 false:=by
  intros
  exact tu (by simp only[L129_2,Bool.false_eq_true,if_false,lenF];exact ti tr tr)
 have t_loop129:∀(z2:Int) (i:Nat),i≤l.length→∀(z5:Int),Total fun n=>L129_1 n l z2 (i:Int) z5:=by
  intro z2
  refine down l.length ?_ ?_
  ·intros
   exact tu (by simp only[L129_1,lenF,Int.lt_irrefl,if_false];exact t_end129 _ _ _)
  ·intro i hi ihl z5
   obtain⟨x,hx,hm,hr⟩:=h.get hi
   obtain⟨a0,a1,a2,rfl,w0,w1,w2⟩:=rs95 hr
   have hrec:=hin a0 a1 a2 hm
   have t_130:∀{z4:Int},Total fun n=>F130 n a0 a1 a2 z4:=by
    intros
    exact tu (by simp only[F130,lenF];exact t1 ((t_F73 w0)) fun _=>ti (ti (t2 ((hrec _ _)) fun _ _=>tr) (t1 ((t_F74 w1)) fun _=>ti (t2 ((hrec _ _)) fun _ _=>tr) tr)) tr)
   refine tu ?_
   simp only[L129_1,lenF,if_pos (ilt hi)]
   refine ti ?_ (t_end129 _ _ _)
   refine tu ?_
   simp only[L129_2,if_true,getF_nat hx,ds_t95,letF,wrap_succ hi h.1,letB]
   exact t2 t_130 fun _ _=>ti tr ((ihl _))
 have t_F129:∀{z2 z3:Int},Total fun n=>F129 n l z2 z3:=by
  intros
  exact tu (by simp only[F129];exact t_loop129 _ 0 (Nat.zero_le _) _)
 exact fun _ _=>t_F129
theorem t_F77 {s2 s3 s6 s9:ByteArray}{l4 l7 l10 l11 l12 l13 l14:List D}(hs2:s2.size≤maxLen) (hs3:s3.size≤maxLen) (h4:ListS tab 9 l4) (hs6:s6.size≤maxLen) (h7:ListS tab 33 l7) (hs9:s9.size≤maxLen) (h10:ListS tab 9 l10) (h11:ListS tab 39 l11)
  (h12:∀z2 z3:Int,Total fun n=>F75x1 n l12 z2 z3) (h13:∀z2 z3:Int,Total fun n=>F75x1 n l13 z2 z3) (h14:∀z2 z3:Int,Total fun n=>F129 n l14 z2 z3) (z1 z5 z8 z15 z16:Int):Total fun n=>F77 n z1 s2 s3 l4 z5 s6 l7 z8 s9 l10 l11 l12 l13 l14 z15 z16:=by
 have t_L77_3:∀{z16 z17 z18:Int} {b19 b20 b21 b22 b68:Bool},Total (fun n=>L77_3 n l11 l12 l13 l14 z16 z17 z18 b19 b20 b21 b22 b68):=by
  intros
  exact tu (by simp only[L77_3,lenF];exact ti tr (ta ((t_F98x1 ‹_›)) fun _ _ _ _ _ _ _ _ _ _=>ti (t2 ((h12 _ _)) fun _ _=>ti (t2 ((h13 _ _)) fun _ _=>ti (t2 ((h14 _ _)) fun _ _=>tr) tr) tr) tr))
 have t_L77_2:∀{z16 z17 z18:Int} {b19 b20 b21 b22 b57:Bool},Total (fun n=>L77_2 n l11 l12 l13 l14 z16 z17 z18 b19 b20 b21 b22 b57):=by
  intros
  exact tu (by simp only[L77_2,lenF,letB];exact ti tr (ti (ti t_L77_3 (ti (ti t_L77_3 (ti t_L77_3 t_L77_3)) (ti t_L77_3 t_L77_3))) (ti (ti t_L77_3 (ti t_L77_3 t_L77_3)) (ti t_L77_3 t_L77_3))))
 have t_L77_1:∀{z5 z16 z17 z18:Int} {b19 b20 b21 b22 b46:Bool},Total (fun n=>L77_1 n z5 s6 l7 s9 l10 l11 l12 l13 l14 z16 z17 z18 b19 b20 b21 b22 b46):=by
  intros
  exact tu (by simp only[L77_1,letF,letB];exact ti tr (t1 ((t_F55e ‹_› ‹_›)) fun _=>ti t_L77_2 (t1 t_F72 fun _=>ti t_L77_2 (t1 ((t_F52 ‹_› ‹_›)) fun _=>ti t_L77_2 (ti (t1 t_F126 fun _=>t_L77_2) t_L77_2)))))
 have t_L77_12:∀{z16:Int} {b197:Bool},Total (fun n=>L77_12 n l11 l12 l13 l14 z16 b197):=by
  intros
  exact tu (by simp only[L77_12,lenF];exact ti tr (ta ((t_F98x4 ‹_›)) fun _ _ _ _ _ _ _ _ _ _=>ti (t2 ((h12 _ _)) fun _ _=>ti (t2 ((h13 _ _)) fun _ _=>ti (t2 ((h14 _ _)) fun _ _=>tr) tr) tr) tr))
 have t_L77_11:∀{z16:Int} {b194:Bool},Total (fun n=>L77_11 n l11 l12 l13 l14 z16 b194):=by
  intros
  exact tu (by simp only[L77_11,lenF];exact ti tr (ti t_L77_12 (ti t_L77_12 t_L77_12)))
 have t_L77_10:∀{z5 z16:Int} {b184:Bool},Total (fun n=>L77_10 n z5 s6 l7 s9 l10 l11 l12 l13 l14 z16 b184):=by
  intros
  exact tu (by simp only[L77_10,letF,letB];exact ti tr (t1 ((t_F55e ‹_› ‹_›)) fun _=>ti t_L77_11 (t1 t_F72 fun _=>ti t_L77_11 (t1 ((t_F52 ‹_› ‹_›)) fun _=>ti t_L77_11 (t1 t_F126 fun _=>t_L77_11)))))
 have t_L77_15:∀{z16:Int} {b237:Bool},Total (fun n=>L77_15 n l11 l12 l13 l14 z16 b237):=by
  intros
  exact tu (by simp only[L77_15,lenF];exact ti tr (ta ((t_F98x5 ‹_›)) fun _ _ _ _ _ _ _ _ _ _=>ti (t2 ((h12 _ _)) fun _ _=>ti (t2 ((h13 _ _)) fun _ _=>ti (t2 ((h14 _ _)) fun _ _=>tr) tr) tr) tr))
 have t_L77_14:∀{z16:Int} {b233:Bool},Total (fun n=>L77_14 n l11 l12 l13 l14 z16 b233):=by
  intros
  exact tu (by simp only[L77_14,lenF];exact ti tr (ti t_L77_15 (ti t_L77_15 (ti t_L77_15 t_L77_15))))
 have t_L77_13:∀{z5 z16:Int} {b225:Bool},Total (fun n=>L77_13 n z5 s6 l7 s9 l10 l11 l12 l13 l14 z16 b225):=by
  intros
  exact tu (by simp only[L77_13,letF,letB];exact ti tr (t1 ((t_F55e ‹_› ‹_›)) fun _=>ti t_L77_14 (t1 ((t_F52 ‹_› ‹_›)) fun _=>ti t_L77_14 (t1 t_F126 fun _=>t_L77_14))))
 have t_L77_6:∀{z16 z24:Int} {b25 b26 b27 b114:Bool},Total (fun n=>L77_6 n l11 l12 l13 l14 z16 z24 b25 b26 b27 b114):=by
  intros
  exact tu (by simp only[L77_6,lenF];exact ti tr (ta ((t_F98x2 ‹_›)) fun _ _ _ _ _ _ _ _ _ _=>ti (t2 ((h12 _ _)) fun _ _=>ti (t2 ((h13 _ _)) fun _ _=>ti (t2 ((h14 _ _)) fun _ _=>tr) tr) tr) tr))
 have t_L77_5:∀{z16 z24:Int} {b25 b26 b27 b107:Bool},Total (fun n=>L77_5 n l11 l12 l13 l14 z16 z24 b25 b26 b27 b107):=by
  intros
  exact tu (by simp only[L77_5,lenF,letB];exact ti tr (ti (ti t_L77_6 (ti t_L77_6 (ti t_L77_6 t_L77_6))) (ti t_L77_6 (ti t_L77_6 t_L77_6))))
 have t_L77_4:∀{z5 z16 z24:Int} {b25 b26 b27 b96:Bool},Total (fun n=>L77_4 n z5 s6 l7 s9 l10 l11 l12 l13 l14 z16 z24 b25 b26 b27 b96):=by
  intros
  exact tu (by simp only[L77_4,letF,letB];exact ti tr (t1 ((t_F55e ‹_› ‹_›)) fun _=>ti t_L77_5 (t1 t_F72 fun _=>ti t_L77_5 (t1 ((t_F52 ‹_› ‹_›)) fun _=>ti t_L77_5 (ti (t1 t_F126 fun _=>t_L77_5) t_L77_5)))))
 have t_L77_9:∀{z16:Int} {b156:Bool},Total (fun n=>L77_9 n l11 l12 l13 l14 z16 b156):=by
  intros
  exact tu (by simp only[L77_9,lenF];exact ti tr (ta ((t_F98x3 ‹_›)) fun _ _ _ _ _ _ _ _ _ _=>ti (t2 ((h12 _ _)) fun _ _=>ti (t2 ((h13 _ _)) fun _ _=>ti (t2 ((h14 _ _)) fun _ _=>tr) tr) tr) tr))
 have t_L77_8:∀{z16:Int} {b152:Bool},Total (fun n=>L77_8 n l11 l12 l13 l14 z16 b152):=by
  intros
  exact tu (by simp only[L77_8,lenF];exact ti tr (ti t_L77_9 (ti t_L77_9 (ti t_L77_9 t_L77_9))))
 have t_L77_7:∀{z5 z16:Int} {b142:Bool},Total (fun n=>L77_7 n z5 s6 l7 s9 l10 l11 l12 l13 l14 z16 b142):=by
  intros
  exact tu (by simp only[L77_7,letF,letB];exact ti tr (t1 ((t_F55e ‹_› ‹_›)) fun _=>ti t_L77_8 (t1 t_F72 fun _=>ti t_L77_8 (t1 ((t_F52 ‹_› ‹_›)) fun _=>ti t_L77_8 (t1 t_F126 fun _=>t_L77_8)))))
 exact tu (by simp only[F77,lenF,letB];exact tS t_F124 (fun _=>t7 tr fun _ _ _ _ _ _ _=>ti t_L77_1 (ti t_L77_1 (t1 t_F125 fun _=>ti t_L77_1 (t1 t_F145 fun _=>ti t_L77_1 (t1 t_F145 fun _=>ti t_L77_1 (ti (t1 ((t_F93a h4)) fun _=>t_L77_1) t_L77_1)))))) (fun _=>tS tr (fun _=>t4 tr fun _ _ _ _=>ti t_L77_4 (t1 t_F125 fun _=>ti t_L77_4 (t1 ((t_F74 ‹_›)) fun _=>ti t_L77_4 (t1 t_F145 fun _=>ti t_L77_4 (ti (t1 ((t_F93a h4)) fun _=>t_L77_4) t_L77_4))))) (fun _=>tS tr (fun _=>ti t_L77_7 (t1 t_F125 fun _=>ti t_L77_7 (t1 ((t_F73 ‹_›)) fun _=>ti t_L77_7 (t1 t_F145 fun _=>ti t_L77_7 (ti (t1 ((t_F93a h4)) fun _=>t_L77_7) t_L77_7))))) (fun _=>tS tr (fun _=>ti t_L77_10 (t1 t_F125 fun _=>ti t_L77_10 (t1 ((t_F74 ‹_›)) fun _=>ti t_L77_10 (t1 ((t_F73 ‹_›)) fun _=>ti t_L77_10 (ti (t1 ((t_F93a h4)) fun _=>t_L77_10) t_L77_10))))) (fun _=>ti t_L77_13 (t1 t_F125 fun _=>ti t_L77_13 (t1 ((t_F74 ‹_›)) fun _=>ti t_L77_13 (t1 ((t_F74 ‹_›)) fun _=>ti t_L77_13 (ti (t1 ((t_F93a h4)) fun _=>t_L77_13) t_L77_13)))))))))
theorem t_F75x1 (l:List D):ListS tab 50 l→∀z2 z3:Int,Total fun n=>F75x1 n l z2 z3:=by
 refine list_ind (P:=fun l=>ListS tab 50 l→∀z2 z3:Int,Total fun n=>F75x1 n l z2 z3) (fun l ih h=>?_) l
 have t_end75x1:∀(z2 zi:Int) (z5:Int),Total fun n=>L75x1_2 n l z2 zi z5 false:=by
  intros
  exact tu (by simp only[L75x1_2,Bool.false_eq_true,if_false,lenF];exact ti tr tr)
 have t_loop75x1:∀(z2:Int) (i:Nat),i≤l.length→∀(z5:Int),Total fun n=>L75x1_1 n l z2 (i:Int) z5:=by
  intro z2
  refine down l.length ?_ ?_
  ·intros
   exact tu (by simp only[L75x1_1,lenF,Int.lt_irrefl,if_false];exact t_end75x1 _ _ _)
  ·intro i hi ihl z5
   obtain⟨x,hx,hm,hr⟩:=h.get hi
   obtain⟨a0,a1,a2,a3,a4,a5,a6,a7,a8,a9,a10,a11,a12,a13,a14,rfl,w0,w1,w2,w3,w4,w5,w6,w7,w8,w9,w10,w11,w12,w13,w14⟩:=rs50 hr
   have h129:∀z2 z3:Int,Total fun n=>F129 n a13 z2 z3:=t_F129 w13 fun s1 s2 m hm2=>ih m (Nat.lt_trans (size_row (ag:=true) (sz:=15) hm2 (by simp)) (size_row (ag:=true) (sz:=3) hm (by simp))) (by obtain⟨b0,b1,b2,e,_,_,w⟩:=rs95 (w13.2 _ hm2);cases e;exact w)
   have h11:=ih a11 (size_row (ag:=true) (sz:=15) hm (by simp)) w11
   have h12:=ih a12 (size_row (ag:=true) (sz:=15) hm (by simp)) w12
   have t_127:∀{z:Int},Total fun n=>F127 n a0 a1 a2 a3 a4 a5 a6 a7 a8 a9 a10 a11 a12 a13 a14 z:=by
    intros
    exact tu (by simp only[F127,letF];exact t1 (t_F77 w1 w2 w3 w5 w6 w8 w9 w10 h11 h12 h129 _ _ _ _ _) fun _=>tr)
   refine tu ?_
   simp only[L75x1_1,lenF,if_pos (ilt hi)]
   refine ti ?_ (t_end75x1 _ _ _)
   refine tu ?_
   simp only[L75x1_2,if_true,getF_nat hx,ds_t50,letF,wrap_succ hi h.1,letB]
   exact t2 t_127 fun _ _=>ti tr ((ihl _))
 have t_F75x1:∀{z2 z3:Int},Total fun n=>F75x1 n l z2 z3:=by
  intros
  exact tu (by simp only[F75x1];exact t_loop75x1 _ 0 (Nat.zero_le _) _)
 exact fun _ _=>t_F75x1
theorem t_F75 {l:List D}(h:ListS tab 50 l) {z2 z3:Int}:Total fun n=>F75 n l z2 z3:=by
 have t_end75:∀(z2 zi:Int) (z5:Int),Total fun n=>L75_2 n l z2 zi z5 false:=by
  intros
  exact tu (by simp only[L75_2,Bool.false_eq_true,if_false,lenF];exact ti tr tr)
 have t_loop75:∀(z2:Int) (i:Nat),i≤l.length→∀(z5:Int),Total fun n=>L75_1 n l z2 (i:Int) z5:=by
  intro z2
  refine down l.length ?_ ?_
  ·intros
   exact tu (by simp only[L75_1,lenF,Int.lt_irrefl,if_false];exact t_end75 _ _ _)
  ·intro i hi ihl z5
   obtain⟨x,hx,hm,hr⟩:=h.get hi
   obtain⟨a0,a1,a2,a3,a4,a5,a6,a7,a8,a9,a10,a11,a12,a13,a14,rfl,w0,w1,w2,w3,w4,w5,w6,w7,w8,w9,w10,w11,w12,w13,w14⟩:=rs50 hr
   have h129:∀z2 z3:Int,Total fun n=>F129 n a13 z2 z3:=t_F129 w13 fun s1 s2 m hm2=>t_F75x1 m (by obtain⟨b0,b1,b2,e,_,_,w⟩:=rs95 (w13.2 _ hm2);cases e;exact w)
   have t_76:∀{z:Int},Total fun n=>F76 n a0 a1 a2 a3 a4 a5 a6 a7 a8 a9 a10 a11 a12 a13 a14 z:=by
    intros
    exact (by unfold F76;simp only[letF];exact t1 (t_F77 w1 w2 w3 w5 w6 w8 w9 w10 (t_F75x1 _ w11) (t_F75x1 _ w12) h129 _ _ _ _ _) fun _=>tr)
   refine tu ?_
   simp only[L75_1,lenF,if_pos (ilt hi)]
   refine ti ?_ (t_end75 _ _ _)
   refine tu ?_
   simp only[L75_2,if_true,getF_nat hx,ds_t50,letF,wrap_succ hi h.1,letB]
   exact t2 t_76 fun _ _=>ti tr ((ihl _))
 have t_F75:∀{z2 z3:Int},Total fun n=>F75 n l z2 z3:=by
  intros
  exact (by unfold F75;exact t_loop75 _ 0 (Nat.zero_le _) _)
 exact t_F75
theorem t_F71:∀{s1:ByteArray}{z2:Int}{s3:ByteArray}{l4:List D}{b5:Bool}{z6:Int},s1.size≤maxLen→s3.size≤maxLen→ListS tab 33 l4→Total (fun n=>F71 n s1 z2 s3 l4 b5 z6):=by
 intros
 exact (by unfold F71;simp only[letF];exact t1 ((t_F74 ‹_›)) fun _=>ti (ti (t1 t_F72 fun _=>ti tr (t1 ((t_F55e ‹_› ‹_›)) fun _=>tr)) (t1 ((t_F55e ‹_› ‹_›)) fun _=>tr)) tr)
theorem t_F70 {l:List D}(h:ListS tab 74 l):∀(z2:Int) (b3:Bool) (z4:Int),Total fun n=>F70 n l z2 b3 z4:=by
 have t_end70:∀(z2 zi:Int) (b6:Bool) (z7:Int),Total fun n=>L70_2 n l z2 zi b6 z7 false:=by
  intros
  exact tu (by simp only[L70_2,Bool.false_eq_true,if_false,lenF];exact ti tr tr)
 have t_loop70:∀(z2:Int) (i:Nat),i≤l.length→∀(b6:Bool) (z7:Int),Total fun n=>L70_1 n l z2 (i:Int) b6 z7:=by
  intro z2
  refine down l.length ?_ ?_
  ·intros
   exact tu (by simp only[L70_1,lenF,Int.lt_irrefl,if_false];exact t_end70 _ _ _ _)
  ·intro i hi ihl b6 z7
   obtain⟨x,hx,hm,hr⟩:=h.get hi
   obtain⟨a0,a1,a2,a3,rfl,w0,w1,w2,w3⟩:=rs74 hr
   refine tu ?_
   simp only[L70_1,lenF,if_pos (ilt hi)]
   refine ti ?_ (t_end70 _ _ _ _)
   refine tu ?_
   simp only[L70_2,if_true,getF_nat hx,ds_t74,letF,wrap_succ hi h.1,letB]
   exact t3 ((t_F71 w0 w2 w3)) fun _ _ _=>ti tr ((ihl _ _))
 have t_F70:∀{z2:Int} {b3:Bool} {z4:Int},Total fun n=>F70 n l z2 b3 z4:=by
  intros
  exact (by unfold F70;exact t_loop70 _ 0 (Nat.zero_le _) _ _)
 exact fun _ _ _=>t_F70
theorem t_F71x1:∀{s1:ByteArray}{z2:Int}{s3:ByteArray}{l4:List D}{b5:Bool}{z6:Int},s1.size≤maxLen→s3.size≤maxLen→ListS tab 33 l4→Total (fun n=>F71x1 n s1 z2 s3 l4 b5 z6):=by
 intros
 exact (by unfold F71x1;simp only[letF];exact t1 ((t_F73 ‹_›)) fun _=>ti (ti (t1 t_F72 fun _=>ti tr (t1 ((t_F55e ‹_› ‹_›)) fun _=>tr)) (t1 ((t_F55e ‹_› ‹_›)) fun _=>tr)) tr)
theorem t_F70x1 {l:List D}(h:ListS tab 74 l):∀(z2:Int) (b3:Bool) (z4:Int),Total fun n=>F70x1 n l z2 b3 z4:=by
 have t_end70x1:∀(z2 zi:Int) (b6:Bool) (z7:Int),Total fun n=>L70x1_2 n l z2 zi b6 z7 false:=by
  intros
  exact tu (by simp only[L70x1_2,Bool.false_eq_true,if_false,lenF];exact ti tr tr)
 have t_loop70x1:∀(z2:Int) (i:Nat),i≤l.length→∀(b6:Bool) (z7:Int),Total fun n=>L70x1_1 n l z2 (i:Int) b6 z7:=by
  intro z2
  refine down l.length ?_ ?_
  ·intros
   exact tu (by simp only[L70x1_1,lenF,Int.lt_irrefl,if_false];exact t_end70x1 _ _ _ _)
  ·intro i hi ihl b6 z7
   obtain⟨x,hx,hm,hr⟩:=h.get hi
   obtain⟨a0,a1,a2,a3,rfl,w0,w1,w2,w3⟩:=rs74 hr
   refine tu ?_
   simp only[L70x1_1,lenF,if_pos (ilt hi)]
   refine ti ?_ (t_end70x1 _ _ _ _)
   refine tu ?_
   simp only[L70x1_2,if_true,getF_nat hx,ds_t74,letF,wrap_succ hi h.1,letB]
   exact t3 ((t_F71x1 w0 w2 w3)) fun _ _ _=>ti tr ((ihl _ _))
 have t_F70x1:∀{z2:Int} {b3:Bool} {z4:Int},Total fun n=>F70x1 n l z2 b3 z4:=by
  intros
  exact (by unfold F70x1;exact t_loop70x1 _ 0 (Nat.zero_le _) _ _)
 exact fun _ _ _=>t_F70x1
theorem t_F118n (l:List D):Total fun n=>F118 n l ([]:List D):=by
 refine tu ?_
 simp only[F118,lenF,List.length_nil]
 by_cases c:(l.length:Int)=((0:Nat):Int)
 ·simp only[if_pos c]
  refine tu ?_
  simp only[L118_1,Bool.false_eq_true,if_false,lenF,c]
  refine tu ?_
  simp only[L118_2,show ¬(((0:Nat):Int))<0 by decide,if_false]
  exact tu (by simp only[L118_3,Bool.false_eq_true,if_false];exact tr)
 ·simp only[if_neg c]
  exact tu (by simp only[L118_1,if_true];exact tr)
theorem t_F139n (l:List D):Total fun n=>F139 n l ([]:List D):=by
 unfold F139
 simp only[lenF,List.length_nil]
 by_cases c:(l.length:Int)=((0:Nat):Int)
 ·simp only[if_pos c]
  refine tu ?_
  simp only[L139_1,Bool.false_eq_true,if_false,lenF,c]
  refine tu ?_
  simp only[L139_2,show ¬(((0:Nat):Int))<0 by decide,if_false]
  exact tu (by simp only[L139_3,Bool.false_eq_true,if_false];exact tr)
 ·simp only[if_neg c]
  exact tu (by simp only[L139_1,if_true];exact tr)
theorem t_F117n (s:ByteArray) (l:List D) (t:ByteArray):Total fun n=>F117 n s l t ([]:List D):=by
 unfold F117
 exact ti (t1 (t_F139n _) fun _=>tr) tr
theorem t_F62n {z1 z2:Int}{s3 s4 s5:ByteArray}{l6 l7:List D}{z8 z9 z10:Int}{s11 s12 s13:ByteArray}{z16:Int}:Total fun n=>F62 n z1 z2 s3 s4 s5 l6 l7 z8 z9 z10 s11 s12 s13 ([]:List D) ([]:List D) z16:=
 tu (by simp only[F62];exact ti (ti (ti (ti (t1 (t_F117n _ _ _) fun _=>ti (t1 (t_F118n _) fun _=>tr) tr) tr) tr) tr) tr)
section
variable {z1:Int}{s2:ByteArray}{l3:List D}{z4:Int}{s5:ByteArray}{l6 l7:List D}{z8 z9:Int}{s10 s11 s12:ByteArray}{l13 l14:List D}{z15 z16:Int}
  (h2:s2.size≤maxLen) (h3:ListS tab 74 l3) (h5:s5.size≤maxLen) (h6:ListS tab 33 l6) (h7:ListS tab 50 l7) (h10:s10.size≤maxLen) (h11:s11.size≤maxLen) (h12:s12.size≤maxLen) (h13:ListS tab 9 l13) (h14:ListS tab 39 l14)
include h2 h3 h5 h6 h7 h10 h11 h12 h13 h14
theorem t_F37 (z17:Int):Total fun n=>F37 n z1 s2 l3 z4 s5 l6 l7 z8 z9 s10 s11 s12 l13 l14 z15 z16 z17:=by
 have f69:∀b1:Bool,∃(b:Bool) (z:Int),Ev (fun n=>F69 n b1 z1 s2 l3 z4 s5 l6 l7 z8 z9 s10 s11 s12 l13 l14 z15 z16 z17) (b,z1,s2,l3,z4,s5,l6,l7,z8,z9,s10,s11,s12,l13,l14,z15,z16,z):=by
  intro b1
  obtain⟨⟨b,b',z⟩,h⟩:=t_F70 h3 6 b1 z17
  exact⟨b,z,Ev.bO3 h .ret⟩
 have f69x:∀b1:Bool,∃(b:Bool) (z:Int),Ev (fun n=>F69x1 n b1 z1 s2 l3 z4 s5 l6 l7 z8 z9 s10 s11 s12 l13 l14 z15 z16 z17) (b,z1,s2,l3,z4,s5,l6,l7,z8,z9,s10,s11,s12,l13,l14,z15,z16,z):=by
  intro b1
  obtain⟨⟨b,b',z⟩,h⟩:=t_F70x1 h3 6 b1 z17
  exact⟨b,z,Ev.bO3 h .ret⟩
 have b4:∀b,Total fun n=>L37_4 n z1 s2 l3 z4 s5 l6 l7 z8 z9 s10 s11 s12 l13 l14 z15 z16 z17 b:=by
  intro b
  refine tu ?_
  simp only[L37_4]
  refine ti (t1 (t_F74 h2) fun b=>ti ?_ tr) tr
  obtain⟨b',z,h⟩:=f69 false
  suffices hh:Total _ by
   obtain⟨r,hr⟩:=hh
   exact⟨r,Ev.bO18 h hr⟩
  simp only[lenF,letF,letB]
  exact ti (t1 ((t_F55e h6 h5)) fun _=>ti (t1 t_F53 fun _=>ti (t1 ((t_F54e h14 h10 h11 h12 h13)) fun _=>ti (t2 ((t_F75 h7)) fun _ _=>tr) tr) tr) tr) tr
 have b3:∀b c,Total fun n=>L37_3 n z1 s2 l3 z4 s5 l6 l7 z8 z9 s10 s11 s12 l13 l14 z15 z16 z17 b c:=by
  intro b c
  refine tu ?_
  simp only[L37_3]
  refine ti (ti ?_ tr) (ti (b4 _) (b4 _))
  obtain⟨b',z,h⟩:=f69x true
  exact⟨b',Ev.bO18 h .ret⟩
 have b2:∀b c,Total fun n=>L37_2 n z1 s2 l3 z4 s5 l6 l7 z8 z9 s10 s11 s12 l13 l14 z15 z16 z17 b c:=by
  intro b c
  refine tu ?_
  simp only[L37_2]
  refine ti (ti ?_ tr) (ti (b3 _ _) (b3 _ _))
  obtain⟨b',z,h⟩:=f69 false
  exact⟨b',Ev.bO18 h .ret⟩
 have b1:∀b,Total fun n=>L37_1 n z1 s2 l3 z4 s5 l6 l7 z8 z9 s10 s11 s12 l13 l14 z15 z16 z17 b:=by
  intro b
  exact tu (by simp only[L37_1];exact ti (b2 _ _) (b2 _ _))
 unfold F37
 simp only[lenF]
 exact t1 t_F72 fun _=>ti (ti (t1 t_F62n fun _=>ti (t1 ((t_F73 h2)) fun _=>(b1 _)) ((b1 _))) ((b1 _))) ((b1 _))
theorem t_F36:Total fun n=>F36 n z1 s2 l3 z4 s5 l6 l7 z8 z9 s10 s11 s12 l13 l14 z15 z16:=by
 unfold F36
 exact t1 (t_F37 h2 h3 h5 h6 h7 h10 h11 h12 h13 h14 39) fun _=>tr
end
end Go.Proofs.YtjmofeakajdbiaaGreatDoor
end
set_option linter.unusedVariables false
noncomputable section
namespace Go.Proofs.YtjmofeakajdbiaaGreatDoor
open Go Go.AM
theorem Ev.uniq {α:Type}{A:Nat→Option α}{r s:α}(h1:Ev A r) (h2:Ev A s):r=s:=by
 obtain⟨N,h1⟩:=h1
 obtain⟨M,h2⟩:=h2
 have a:=h1 (N+M) (by omega)
 have b:=h2 (N+M) (by omega)
 rw[a]at b
 exact Option.some.inj b
theorem iw {z:Int}(h1: -9223372036854775808≤z) (h2:z≤9223372036854775807):IntKind.i64.wrap z=z:=IntWalk.i64_in _ (by omega)
theorem room26 (s:ByteArray) (z:Int) (h1: -6≤z) (h2:z≤20000):∃r,Ev (fun n=>F26 n s z) r∧ -1≤r∧r≤20000∧(0≤r→r+5≤z):=by
 by_cases h3:z<5
 ·exact⟨-1,.succ (.of fun n=>by unfold F26;rw[if_pos h3,L26_1,if_pos rfl]),by omega,by omega,by omega⟩
 ·have e:IntKind.i64.wrap (z - 5)=z - 5:=iw (by omega) (by omega)
  by_cases h4:z - 5<((bl s).length:Int)
  ·exact⟨-1,.succ (.of fun n=>by unfold F26;rw[if_neg h3,szF_eq];simp only[letF];rw[e,if_pos h4,L26_1,if_pos rfl]),by omega,by omega,by omega⟩
  ·have e2:IntKind.i64.wrap (z - 5 - ((bl s).length:Int))=z - 5 - ((bl s).length:Int):=iw (by omega) (by omega)
   exact⟨z - 5 - ((bl s).length:Int),.succ (.of fun n=>by unfold F26;rw[if_neg h3,szF_eq];simp only[letF];rw[e,if_neg h4,L26_1,if_neg Bool.false_ne_true];simp only[letF];rw[szF_eq,e,e2]),by omega,by omega,by omega⟩
theorem room66 {l:List D}(h:ListS tab 9 l) (z:Int) (h1: -1≤z) (h2:z≤20000):∃r,Ev (fun n=>F66 n l z) r∧ -6≤r∧r≤20000∧(0≤r→r≤z):=by
 have main:∀i:Nat,i≤l.length→∀z,-6≤z→z≤20000→∃r,Ev (fun n=>L66_1 n l (i:Int) z) r∧ -6≤r∧r≤20000∧(0≤r→r≤z):=by
  refine down l.length ?_ ?_
  ·intro z h1 h2
   refine⟨z,.succ (.succ (.of fun n=>?_)),by omega,by omega,by omega⟩
   rw[L66_1];simp only[lenF];rw[if_neg (by omega),L66_2,if_neg Bool.false_ne_true]
  ·intro i hi ih z h1 h2
   by_cases hz:(0:Int)≤z
   ·obtain⟨x,hx,_,hr⟩:=h.get hi
    obtain⟨s,rfl,_⟩:=rs9 hr
    obtain⟨z1,g1,g2,g3,g4⟩:=room26 s z (by omega) h2
    obtain⟨r,k1,k2,k3,k4⟩:=ih z1 (by omega) (by omega)
    refine⟨r,.succ (.succ (Ev.congr (A:=fun n=>bO1 (F26 n s z) fun z10=>L66_1 n l ((i+1:Nat):Int) z10) (Ev.bO1 g1 k1) fun n=>?_)),k2,k3,by omega⟩
    rw[L66_1];simp only[lenF];rw[if_pos (by omega),if_pos hz,L66_2,if_pos rfl,getF_nat hx]
    simp only[ds_str,letF,wrap_succ hi h.1]
   ·refine⟨z,.succ (.succ (.of fun n=>?_)),by omega,by omega,by omega⟩
    rw[L66_1];simp only[lenF];rw[if_pos (by omega),if_neg hz,L66_2,if_neg Bool.false_ne_true]
 obtain⟨r,h,a,b,c⟩:=main 0 (Nat.zero_le _) (z - 5) (by omega) (by omega)
 exact⟨r,h.congr fun n=>by unfold F66;simp only[letF,iw (show -9223372036854775808≤z - 5 by omega) (by omega)];rfl,a,b,by omega⟩
theorem room67 {l:List D}(h:ListS tab 9 l) (s:ByteArray) (z:Int) (h1: -6≤z) (h2:z≤20000):∃r,Ev (fun n=>F67 n s l z) r∧ -6≤r∧r≤20000∧(0≤r→r+5≤z):=by
 obtain⟨y,g1,g2,g3,g4⟩:=room26 s z h1 h2
 obtain⟨r,k1,k2,k3,k4⟩:=room66 h y g2 g3
 exact⟨r,Ev.bO1 g1 (Ev.bO1 k1 .ret),k2,k3,by omega⟩
end Go.Proofs.YtjmofeakajdbiaaGreatDoor
set_option linter.unusedVariables false
noncomputable section
namespace Go.Proofs.YtjmofeakajdbiaaGreatDoor
open Go Go.AM
mutual
def L27_1:Nat->LD->Int->Int->Option (Int)
 | 0,_,_,_=>none
 | n+1,l1,z3,z4=>
  lenF l1 fun z5=>(if z3<z5 then (if (0:Int)<=z4 then L27_2 n l1 z3 z4 true else L27_2 n l1 z3 z4 false)else L27_2 n l1 z3 z4 false)
def L27_2:Nat->LD->Int->Int->Bool->Option (Int)
 | 0,_,_,_,_=>none
 | n+1,l1,z3,z4,b6=>
  (if b6=true then getF l1 z3 fun x7=>ds_t74 x7 fun s8 z9 s10 l11=>bO1 (F26 n s8 z4) fun z12=>getF l1 z3 fun x13=>ds_t74 x13 fun s14 z15 s16 l17=>bO1 (F28 n z15 s16 l17 z12) fun z18=>letF (IntKind.wrap .i64 (z3+1)) fun z19=>L27_1 n l1 z19 z18 else some z4)
end
def F27 (n:Nat) (l1:LD) (z2:Int):Option (Int):=
 L27_1 n l1 (0:Int) z2
theorem T27 (n:Nat):∀⦃l1 z2 r1⦄,F27 n l1 z2=some r1->
    Trip Tryz.prog inv 27 [.c (.ptr (.ext 0) 0),.d (.list true 4 l1)] [.cells [.d (.int .i64 z2)]] (.t []) [.cells [.d (.int .i64 r1)]] []:=by
 intro l1 z2 r1 h
 unfold F27 at h
 refine Trip.of tab_ok tab_one fol Tryz.func27 rfl (by kernel_rfl) rfl rfl rfl (fun M hM hI=>?_)
 try cbv
 refine seq_go ?_
 try cbv
 refine loop_inv (T:=Nat×Int×Int) [0,1,4] [.ext 0] 32 (fun t=>⟨[sE 0 0,sT 1 4 l1,sI 4 t.2.1],[(.ext 0,.cells [.d (.int .i64 t.2.2)])],32⟩)
   (fun t=>t.1<=n/\L27_1 t.1 l1 t.2.1 t.2.2=some r1) (fun t=>t.1) (n,((0:Int),z2)) ⟨Nat.le_refl _,h⟩ (by cbv) ?_
 clear h
 rintro⟨m1,z3,z4⟩ ⟨hm1,h⟩
 replace hm1:m1<=n:=hm1
 obtain _ | m1:=m1
 ·replace h:L27_1 0 l1 z3 z4=some r1:=h
  rw[L27_1]at h
  cases h
 replace h:L27_1 (m1+1) l1 z3 z4=some r1:=h
 rw[L27_1]at h
 try cbv
 refine seq_go ?_
 try cbv
 refine seq_joinB 15 [0,1,4,15] [.ext 0] 384 (fun m b=>m<=m1/\L27_2 m l1 z3 z4 b=some r1) ?_ ?_
 ·try cbv
  replace h:=lenF_inv M h
  obtain⟨z5,hz,h⟩:=h
  refine⟨z5,hz,?_⟩
  clear hz
  try cbv
  refine splitL (fun e=>?_) (fun e=>?_)
  ·replace h:=ite_t e h
   clear e
   try cbv
   refine splitLe (fun e=>?_) (fun e=>?_)
   ·replace h:=ite_t e h
    clear e
    try cbv
    exact join_next (m1,true) [0,1,4,15] [.ext 0] 384 ⟨by omega,h⟩ (by cbv)
   replace h:=ite_f (Int.not_le.2 e) h
   clear e
   try cbv
   exact join_next (m1,false) [0,1,4,15] [.ext 0] 384 ⟨by omega,h⟩ (by cbv)
  replace h:=ite_f (Int.not_lt.2 e) h
  clear e
  try cbv
  exact join_next (m1,false) [0,1,4,15] [.ext 0] 384 ⟨by omega,h⟩ (by cbv)
 clear h
 rintro⟨m2,b6⟩ ⟨hm2,h⟩
 try cbv
 replace hm2:m2<=m1:=hm2
 obtain _ | m2:=m2
 ·replace h:L27_2 0 l1 z3 z4 b6=some r1:=h
  rw[L27_2]at h
  cases h
 replace h:L27_2 (m2+1) l1 z3 z4 b6=some r1:=h
 rw[L27_2]at h
 try cbv
 cases b6
 ·replace h:=itF h
  try cbv
  obtain rfl:=Option.some.inj h
  refine fin_go ?_
  try cbv
  exact⟨[],rfl,rfl,⟨rfl,trivial⟩,trivial,trivial⟩
 replace h:=itT h
 try cbv
 refine seq_go ?_
 try cbv
 refine seq_go ?_
 try cbv
 replace h:=getF_inv h
 obtain⟨x7,⟨hx0,hx⟩,h⟩:=h
 refine⟨x7,hx0,hx,?_⟩
 clear hx0 hx
 replace h:=ds_t74_inv h
 obtain⟨s8,z9,s10,l11,rfl,h⟩:=h
 try cbv
 replace h:=bO1_inv h
 obtain⟨z12,hr,h⟩:=h
 refine call_go rfl rfl ?_
 try cbv
 refine call_with hM hI [.ext 0] (T26 _ hr) rfl (by simp) ⟨rfl,trivial⟩ ⟨trivial,trivial⟩ (by simp) ?_
 clear hr
 try cbv
 replace h:=getF_inv h
 obtain⟨x13,⟨hx0,hx⟩,h⟩:=h
 refine⟨x13,hx0,hx,?_⟩
 clear hx0 hx
 replace h:=ds_t74_inv h
 obtain⟨s14,z15,s16,l17,rfl,h⟩:=h
 try cbv
 replace h:=bO1_inv h
 obtain⟨z18,hr,h⟩:=h
 refine call_go rfl rfl ?_
 try cbv
 refine call_with hM hI [.ext 0] (T28 _ hr) rfl (by simp) ⟨rfl,trivial⟩ ⟨trivial,trivial⟩ (by simp) ?_
 clear hr
 try cbv
 replace h:=letF_inv h
 obtain⟨z19,hz,h⟩:=h
 refine⟨z19,hz,?_⟩
 clear hz
 try cbv
 exact loop_next (m2,(z19,z18)) [0,1,4] [.ext 0] 32 ⟨by omega,h⟩ (Nat.lt_succ_of_le (by omega)) (by cbv)
mutual
def L29_1:Nat->LD->Int->Int->Option (Int)
 | 0,_,_,_=>none
 | n+1,l1,z3,z4=>
  lenF l1 fun z5=>(if z3<z5 then (if (0:Int)<=z4 then L29_2 n l1 z3 z4 true else L29_2 n l1 z3 z4 false)else L29_2 n l1 z3 z4 false)
def L29_2:Nat->LD->Int->Int->Bool->Option (Int)
 | 0,_,_,_,_=>none
 | n+1,l1,z3,z4,b6=>
  (if b6=true then getF l1 z3 fun x7=>ds_t50 x7 fun z8 s9 s10 l11 z12 s13 l14 z15 s16 l17 l18 l19 l20 l21 z22=>bO1 (F26 n s9 z4) fun z23=>bO1 (F26 n s10 z23) fun z24=>bO1 (F66 n l11 z24) fun z25=>bO1 (F28 n z12 s13 l14 z25) fun z26=>bO1 (F67 n s16 l17 z26) fun z27=>L29_3 n l1 z3 l18 l19 l20 l21 (0:Int) z27 else some z4)
def L29_3:Nat->LD->Int->LD->LD->LD->LD->Int->Int->Option (Int)
 | 0,_,_,_,_,_,_,_,_=>none
 | n+1,l1,z3,l18,l19,l20,l21,z28,z29=>
  lenF l18 fun z30=>(if z28<z30 then (if (0:Int)<=z29 then L29_4 n l1 z3 l18 l19 l20 l21 z28 z29 true else L29_4 n l1 z3 l18 l19 l20 l21 z28 z29 false)else L29_4 n l1 z3 l18 l19 l20 l21 z28 z29 false)
def L29_4:Nat->LD->Int->LD->LD->LD->LD->Int->Int->Bool->Option (Int)
 | 0,_,_,_,_,_,_,_,_,_=>none
 | n+1,l1,z3,l18,l19,l20,l21,z28,z29,b31=>
  (if b31=true then getF l18 z28 fun x32=>ds_t39 x32 fun z33 z34 s35 s36 s37 l38 l39 z40=>bO1 (F30 n z33 z34 s35 s36 s37 l38 l39 z40 z29) fun z41=>letF (IntKind.wrap .i64 (z28+1)) fun z42=>L29_3 n l1 z3 l18 l19 l20 l21 z42 z41 else (if z29<(0:Int)then L29_5 n l1 z3 l19 l20 l21 z29 true else L29_5 n l1 z3 l19 l20 l21 z29 false))
def L29_5:Nat->LD->Int->LD->LD->LD->Int->Bool->Option (Int)
 | 0,_,_,_,_,_,_,_=>none
 | n+1,l1,z3,l19,l20,l21,z29,b43=>
  (if b43=true then some z29 else bO1 (F29 n l19 z29) fun z44=>bO1 (F29 n l20 z44) fun z45=>L29_6 n l1 z3 l21 (0:Int) z45)
def L29_6:Nat->LD->Int->LD->Int->Int->Option (Int)
 | 0,_,_,_,_,_=>none
 | n+1,l1,z3,l21,z46,z47=>
  lenF l21 fun z48=>(if z46<z48 then (if (0:Int)<=z47 then L29_7 n l1 z3 l21 z46 z47 true else L29_7 n l1 z3 l21 z46 z47 false)else L29_7 n l1 z3 l21 z46 z47 false)
def L29_7:Nat->LD->Int->LD->Int->Int->Bool->Option (Int)
 | 0,_,_,_,_,_,_=>none
 | n+1,l1,z3,l21,z46,z47,b49=>
  (if b49=true then getF l21 z46 fun x50=>ds_t95 x50 fun s51 s52 l53=>bO1 (F26 n s51 z47) fun z54=>getF l21 z46 fun x55=>ds_t95 x55 fun s56 s57 l58=>bO1 (F26 n s57 z54) fun z59=>getF l21 z46 fun x60=>ds_t95 x60 fun s61 s62 l63=>bO1 (F29 n l63 z59) fun z64=>letF (IntKind.wrap .i64 (z46+1)) fun z65=>L29_6 n l1 z3 l21 z65 z64 else letF (IntKind.wrap .i64 (z3+1)) fun z66=>L29_1 n l1 z66 z47)
def F29:Nat->LD->Int->Option (Int)
 | 0,_,_=>none
 | n+1,l1,z2=>
  L29_1 n l1 (0:Int) z2
end
theorem T29 (n:Nat):∀⦃l1 z2 r1⦄,F29 n l1 z2=some r1->
    Trip Tryz.prog inv 29 [.c (.ptr (.ext 0) 0),.d (.list true 15 l1)] [.cells [.d (.int .i64 z2)]] (.t []) [.cells [.d (.int .i64 r1)]] []:=by
 induction n using Nat.strongRecOn with | _ n ih=>
 obtain _ | n:=n
 ·intro l1 z2 r1 h
  cases (show (none:Option _)=some _ from h)
 intro l1 z2 r1 h
 rw[F29]at h
 refine Trip.of tab_ok tab_one fol Tryz.func29 rfl (by kernel_rfl) rfl rfl rfl (fun M hM hI=>?_)
 try cbv
 refine seq_go ?_
 try cbv
 refine loop_inv (T:=Nat×Int×Int) [0,1,4] [.ext 0] 32 (fun t=>⟨[sE 0 0,sT 1 15 l1,sI 4 t.2.1],[(.ext 0,.cells [.d (.int .i64 t.2.2)])],32⟩)
   (fun t=>t.1<=n/\L29_1 t.1 l1 t.2.1 t.2.2=some r1) (fun t=>t.1) (n,((0:Int),z2)) ⟨Nat.le_refl _,h⟩ (by cbv) ?_
 clear h
 rintro⟨m1,z3,z4⟩ ⟨hm1,h⟩
 replace hm1:m1<=n:=hm1
 obtain _ | m1:=m1
 ·replace h:L29_1 0 l1 z3 z4=some r1:=h
  rw[L29_1]at h
  cases h
 replace h:L29_1 (m1+1) l1 z3 z4=some r1:=h
 rw[L29_1]at h
 try cbv
 refine seq_go ?_
 try cbv
 refine seq_joinB 18 [0,1,4,18] [.ext 0] 384 (fun m b=>m<=m1/\L29_2 m l1 z3 z4 b=some r1) ?_ ?_
 ·try cbv
  replace h:=lenF_inv M h
  obtain⟨z5,hz,h⟩:=h
  refine⟨z5,hz,?_⟩
  clear hz
  try cbv
  refine splitL (fun e=>?_) (fun e=>?_)
  ·replace h:=ite_t e h
   clear e
   try cbv
   refine splitLe (fun e=>?_) (fun e=>?_)
   ·replace h:=ite_t e h
    clear e
    try cbv
    exact join_next (m1,true) [0,1,4,18] [.ext 0] 384 ⟨by omega,h⟩ (by cbv)
   replace h:=ite_f (Int.not_le.2 e) h
   clear e
   try cbv
   exact join_next (m1,false) [0,1,4,18] [.ext 0] 384 ⟨by omega,h⟩ (by cbv)
  replace h:=ite_f (Int.not_lt.2 e) h
  clear e
  try cbv
  exact join_next (m1,false) [0,1,4,18] [.ext 0] 384 ⟨by omega,h⟩ (by cbv)
 clear h
 rintro⟨m2,b6⟩ ⟨hm2,h⟩
 try cbv
 replace hm2:m2<=m1:=hm2
 obtain _ | m2:=m2
 ·replace h:L29_2 0 l1 z3 z4 b6=some r1:=h
  rw[L29_2]at h
  cases h
 replace h:L29_2 (m2+1) l1 z3 z4 b6=some r1:=h
 rw[L29_2]at h
 try cbv
 cases b6
 ·replace h:=itF h
  try cbv
  obtain rfl:=Option.some.inj h
  refine fin_go ?_
  try cbv
  exact⟨[],rfl,rfl,⟨rfl,trivial⟩,trivial,trivial⟩
 replace h:=itT h
 try cbv
 refine seq_go ?_
 try cbv
 refine seq_go ?_
 try cbv
 replace h:=getF_inv h
 obtain⟨x7,⟨hx0,hx⟩,h⟩:=h
 refine⟨x7,hx0,hx,?_⟩
 clear hx0 hx
 replace h:=ds_t50_inv h
 obtain⟨z8,s9,s10,l11,z12,s13,l14,z15,s16,l17,l18,l19,l20,l21,z22,rfl,h⟩:=h
 try cbv
 refine seq_go ?_
 try cbv
 replace h:=bO1_inv h
 obtain⟨z23,hr,h⟩:=h
 refine call_go rfl rfl ?_
 try cbv
 refine call_with hM hI [.ext 0] (T26 _ hr) rfl (by simp) ⟨rfl,trivial⟩ ⟨trivial,trivial⟩ (by simp) ?_
 clear hr
 try cbv
 refine seq_go ?_
 try cbv
 replace h:=bO1_inv h
 obtain⟨z24,hr,h⟩:=h
 refine call_go rfl rfl ?_
 try cbv
 refine call_with hM hI [.ext 0] (T26 _ hr) rfl (by simp) ⟨rfl,trivial⟩ ⟨trivial,trivial⟩ (by simp) ?_
 clear hr
 try cbv
 refine seq_go ?_
 try cbv
 replace h:=bO1_inv h
 obtain⟨z25,hr,h⟩:=h
 refine call_go rfl rfl ?_
 try cbv
 refine call_with hM hI [.ext 0] (T66 _ hr) rfl (by simp) ⟨rfl,trivial⟩ ⟨trivial,trivial⟩ (by simp) ?_
 clear hr
 try cbv
 refine seq_go ?_
 try cbv
 replace h:=bO1_inv h
 obtain⟨z26,hr,h⟩:=h
 refine call_go rfl rfl ?_
 try cbv
 refine call_with hM hI [.ext 0] (T28 _ hr) rfl (by simp) ⟨rfl,trivial⟩ ⟨trivial,trivial⟩ (by simp) ?_
 clear hr
 try cbv
 refine seq_go ?_
 try cbv
 replace h:=bO1_inv h
 obtain⟨z27,hr,h⟩:=h
 refine call_go rfl rfl ?_
 try cbv
 refine call_with hM hI [.ext 0] (T67 _ hr) rfl (by simp) ⟨rfl,trivial⟩ ⟨trivial,trivial⟩ (by simp) ?_
 clear hr
 try cbv
 refine seq_go ?_
 try cbv
 refine seq_go ?_
 try cbv
 refine loop_inv (T:=Nat×Int×Int) [0,1,4,5,6] [.ext 0,.loc 512] 1248 (fun t=>⟨[sE 0 0,sT 1 15 l1,sI 4 z3,sL 5 512,sI 6 t.2.1],[(.ext 0,.cells [.d (.int .i64 t.2.2)]),(.loc 512,.cells [.d (.int .u8 z8),.d (.str s9),.d (.str s10),.d (.list false 1 l11),.d (.int .u8 z12),.d (.str s13),.d (.list true 3 l14),.d (.int .i64 z15),.d (.str s16),.d (.list false 1 l17),.d (.list true 8 l18),.d (.list true 15 l19),.d (.list true 15 l20),.d (.list true 3 l21),.d (.int .i64 z22)])],1248⟩)
   (fun t=>t.1<=m2/\L29_3 t.1 l1 z3 l18 l19 l20 l21 t.2.1 t.2.2=some r1) (fun t=>t.1) (m2,((0:Int),z27)) ⟨Nat.le_refl _,h⟩ (by cbv) ?_
 clear h
 rintro⟨m3,z28,z29⟩ ⟨hm3,h⟩
 replace hm3:m3<=m2:=hm3
 obtain _ | m3:=m3
 ·replace h:L29_3 0 l1 z3 l18 l19 l20 l21 z28 z29=some r1:=h
  rw[L29_3]at h
  cases h
 replace h:L29_3 (m3+1) l1 z3 l18 l19 l20 l21 z28 z29=some r1:=h
 rw[L29_3]at h
 try cbv
 refine seq_go ?_
 try cbv
 refine seq_joinB 56 [0,1,4,5,6,56] [.ext 0,.loc 512] 1632 (fun m b=>m<=m3/\L29_4 m l1 z3 l18 l19 l20 l21 z28 z29 b=some r1) ?_ ?_
 ·try cbv
  replace h:=lenF_inv M h
  obtain⟨z30,hz,h⟩:=h
  refine⟨z30,hz,?_⟩
  clear hz
  try cbv
  refine splitL (fun e=>?_) (fun e=>?_)
  ·replace h:=ite_t e h
   clear e
   try cbv
   refine splitLe (fun e=>?_) (fun e=>?_)
   ·replace h:=ite_t e h
    clear e
    try cbv
    exact join_next (m3,true) [0,1,4,5,6,56] [.ext 0,.loc 512] 1632 ⟨by omega,h⟩ (by cbv)
   replace h:=ite_f (Int.not_le.2 e) h
   clear e
   try cbv
   exact join_next (m3,false) [0,1,4,5,6,56] [.ext 0,.loc 512] 1632 ⟨by omega,h⟩ (by cbv)
  replace h:=ite_f (Int.not_lt.2 e) h
  clear e
  try cbv
  exact join_next (m3,false) [0,1,4,5,6,56] [.ext 0,.loc 512] 1632 ⟨by omega,h⟩ (by cbv)
 clear h
 rintro⟨m4,b31⟩ ⟨hm4,h⟩
 try cbv
 replace hm4:m4<=m3:=hm4
 obtain _ | m4:=m4
 ·replace h:L29_4 0 l1 z3 l18 l19 l20 l21 z28 z29 b31=some r1:=h
  rw[L29_4]at h
  cases h
 replace h:L29_4 (m4+1) l1 z3 l18 l19 l20 l21 z28 z29 b31=some r1:=h
 rw[L29_4]at h
 try cbv
 cases b31
 rotate_left
 ·replace h:=itT h
  try cbv
  refine seq_go ?_
  try cbv
  replace h:=getF_inv h
  obtain⟨x32,⟨hx0,hx⟩,h⟩:=h
  refine⟨x32,hx0,hx,?_⟩
  clear hx0 hx
  replace h:=ds_t39_inv h
  obtain⟨z33,z34,s35,s36,s37,l38,l39,z40,rfl,h⟩:=h
  try cbv
  replace h:=bO1_inv h
  obtain⟨z41,hr,h⟩:=h
  refine call_go rfl rfl ?_
  try cbv
  refine call_with hM hI [.ext 0] (T30 _ hr) rfl (by simp) ⟨rfl,trivial⟩ ⟨trivial,trivial⟩ (by simp) ?_
  clear hr
  try cbv
  replace h:=letF_inv h
  obtain⟨z42,hz,h⟩:=h
  refine⟨z42,hz,?_⟩
  clear hz
  try cbv
  exact loop_next (m4,(z42,z41)) [0,1,4,5,6] [.ext 0,.loc 512] 1248 ⟨by omega,h⟩ (Nat.lt_succ_of_le (by omega)) (by cbv)
 replace h:=itF h
 try cbv
 refine seq_go ?_
 try cbv
 refine seq_joinB 70 [0,1,4,5,6,70] [.ext 0,.loc 512] 1792 (fun m b=>m<=m4/\L29_5 m l1 z3 l19 l20 l21 z29 b=some r1) ?_ ?_
 ·try cbv
  refine splitL (fun e=>?_) (fun e=>?_)
  ·replace h:=ite_t e h
   clear e
   try cbv
   exact join_next (m4,true) [0,1,4,5,6,70] [.ext 0,.loc 512] 1792 ⟨by omega,h⟩ (by cbv)
  replace h:=ite_f (Int.not_lt.2 e) h
  clear e
  try cbv
  exact join_next (m4,false) [0,1,4,5,6,70] [.ext 0,.loc 512] 1792 ⟨by omega,h⟩ (by cbv)
 clear h
 rintro⟨m5,b43⟩ ⟨hm5,h⟩
 try cbv
 replace hm5:m5<=m4:=hm5
 obtain _ | m5:=m5
 ·replace h:L29_5 0 l1 z3 l19 l20 l21 z29 b43=some r1:=h
  rw[L29_5]at h
  cases h
 replace h:L29_5 (m5+1) l1 z3 l19 l20 l21 z29 b43=some r1:=h
 rw[L29_5]at h
 try cbv
 cases b43
 rotate_left
 ·replace h:=itT h
  try cbv
  obtain rfl:=Option.some.inj h
  refine fin_go ?_
  try cbv
  exact⟨[],rfl,rfl,⟨rfl,trivial⟩,trivial,trivial⟩
 replace h:=itF h
 try cbv
 refine seq_go ?_
 try cbv
 replace h:=bO1_inv h
 obtain⟨z44,hr,h⟩:=h
 refine call_go rfl rfl ?_
 try cbv
 refine call_with hM hI [.ext 0] ((ih _ (by omega)) hr) rfl (by simp) ⟨rfl,trivial⟩ ⟨trivial,trivial⟩ (by simp) ?_
 clear hr
 try cbv
 refine seq_go ?_
 try cbv
 replace h:=bO1_inv h
 obtain⟨z45,hr,h⟩:=h
 refine call_go rfl rfl ?_
 try cbv
 refine call_with hM hI [.ext 0] ((ih _ (by omega)) hr) rfl (by simp) ⟨rfl,trivial⟩ ⟨trivial,trivial⟩ (by simp) ?_
 clear hr
 try cbv
 refine seq_go ?_
 try cbv
 refine loop_inv (T:=Nat×Int×Int) [0,1,4,5,6,7] [.ext 0,.loc 512] 2080 (fun t=>⟨[sE 0 0,sT 1 15 l1,sI 4 z3,sL 5 512,sI 6 z28,sI 7 t.2.1],[(.ext 0,.cells [.d (.int .i64 t.2.2)]),(.loc 512,.cells [.d (.int .u8 z8),.d (.str s9),.d (.str s10),.d (.list false 1 l11),.d (.int .u8 z12),.d (.str s13),.d (.list true 3 l14),.d (.int .i64 z15),.d (.str s16),.d (.list false 1 l17),.d (.list true 8 l18),.d (.list true 15 l19),.d (.list true 15 l20),.d (.list true 3 l21),.d (.int .i64 z22)])],2080⟩)
   (fun t=>t.1<=m5/\L29_6 t.1 l1 z3 l21 t.2.1 t.2.2=some r1) (fun t=>t.1) (m5,((0:Int),z45)) ⟨Nat.le_refl _,h⟩ (by cbv) ?_
 clear h
 rintro⟨m6,z46,z47⟩ ⟨hm6,h⟩
 replace hm6:m6<=m5:=hm6
 obtain _ | m6:=m6
 ·replace h:L29_6 0 l1 z3 l21 z46 z47=some r1:=h
  rw[L29_6]at h
  cases h
 replace h:L29_6 (m6+1) l1 z3 l21 z46 z47=some r1:=h
 rw[L29_6]at h
 try cbv
 refine seq_go ?_
 try cbv
 refine seq_joinB 90 [0,1,4,5,6,7,90] [.ext 0,.loc 512] 2464 (fun m b=>m<=m6/\L29_7 m l1 z3 l21 z46 z47 b=some r1) ?_ ?_
 ·try cbv
  replace h:=lenF_inv M h
  obtain⟨z48,hz,h⟩:=h
  refine⟨z48,hz,?_⟩
  clear hz
  try cbv
  refine splitL (fun e=>?_) (fun e=>?_)
  ·replace h:=ite_t e h
   clear e
   try cbv
   refine splitLe (fun e=>?_) (fun e=>?_)
   ·replace h:=ite_t e h
    clear e
    try cbv
    exact join_next (m6,true) [0,1,4,5,6,7,90] [.ext 0,.loc 512] 2464 ⟨by omega,h⟩ (by cbv)
   replace h:=ite_f (Int.not_le.2 e) h
   clear e
   try cbv
   exact join_next (m6,false) [0,1,4,5,6,7,90] [.ext 0,.loc 512] 2464 ⟨by omega,h⟩ (by cbv)
  replace h:=ite_f (Int.not_lt.2 e) h
  clear e
  try cbv
  exact join_next (m6,false) [0,1,4,5,6,7,90] [.ext 0,.loc 512] 2464 ⟨by omega,h⟩ (by cbv)
 clear h
 rintro⟨m7,b49⟩ ⟨hm7,h⟩
 try cbv
 replace hm7:m7<=m6:=hm7
 obtain _ | m7:=m7
 ·replace h:L29_7 0 l1 z3 l21 z46 z47 b49=some r1:=h
  rw[L29_7]at h
  cases h
 replace h:L29_7 (m7+1) l1 z3 l21 z46 z47 b49=some r1:=h
 rw[L29_7]at h
 try cbv
 cases b49
 ·replace h:=itF h
  try cbv
  replace h:=letF_inv h
  obtain⟨z66,hz,h⟩:=h
  refine⟨z66,hz,?_⟩
  clear hz
  try cbv
  exact loop_next (m7,(z66,z47)) [0,1,4] [.ext 0] 32 ⟨by omega,h⟩ (Nat.lt_succ_of_le (by omega)) (by cbv)
 replace h:=itT h
 try cbv
 refine seq_go ?_
 try cbv
 refine seq_go ?_
 try cbv
 replace h:=getF_inv h
 obtain⟨x50,⟨hx0,hx⟩,h⟩:=h
 refine⟨x50,hx0,hx,?_⟩
 clear hx0 hx
 replace h:=ds_t95_inv h
 obtain⟨s51,s52,l53,rfl,h⟩:=h
 try cbv
 replace h:=bO1_inv h
 obtain⟨z54,hr,h⟩:=h
 refine call_go rfl rfl ?_
 try cbv
 refine call_with hM hI [.ext 0] (T26 _ hr) rfl (by simp) ⟨rfl,trivial⟩ ⟨trivial,trivial⟩ (by simp) ?_
 clear hr
 try cbv
 refine seq_go ?_
 try cbv
 replace h:=getF_inv h
 obtain⟨x55,⟨hx0,hx⟩,h⟩:=h
 refine⟨x55,hx0,hx,?_⟩
 clear hx0 hx
 replace h:=ds_t95_inv h
 obtain⟨s56,s57,l58,rfl,h⟩:=h
 try cbv
 replace h:=bO1_inv h
 obtain⟨z59,hr,h⟩:=h
 refine call_go rfl rfl ?_
 try cbv
 refine call_with hM hI [.ext 0] (T26 _ hr) rfl (by simp) ⟨rfl,trivial⟩ ⟨trivial,trivial⟩ (by simp) ?_
 clear hr
 try cbv
 replace h:=getF_inv h
 obtain⟨x60,⟨hx0,hx⟩,h⟩:=h
 refine⟨x60,hx0,hx,?_⟩
 clear hx0 hx
 replace h:=ds_t95_inv h
 obtain⟨s61,s62,l63,rfl,h⟩:=h
 try cbv
 replace h:=bO1_inv h
 obtain⟨z64,hr,h⟩:=h
 refine call_go rfl rfl ?_
 try cbv
 refine call_with hM hI [.ext 0] ((ih _ (by omega)) hr) rfl (by simp) ⟨rfl,trivial⟩ ⟨trivial,trivial⟩ (by simp) ?_
 clear hr
 try cbv
 replace h:=letF_inv h
 obtain⟨z65,hz,h⟩:=h
 refine⟨z65,hz,?_⟩
 clear hz
 try cbv
 exact loop_next (m7,(z65,z64)) [0,1,4,5,6,7] [.ext 0,.loc 512] 2080 ⟨by omega,h⟩ (Nat.lt_succ_of_le (by omega)) (by cbv)
mutual
def L8_1:Nat->LD->Int->Int->Option (Bool)
 | 0,_,_,_=>none
 | n+1,l1,z2,z3=>
  lenF l1 fun z4=>(if z2<z4 then (if (0:Int)<=z3 then L8_2 n l1 z2 z3 true else L8_2 n l1 z2 z3 false)else L8_2 n l1 z2 z3 false)
def L8_2:Nat->LD->Int->Int->Bool->Option (Bool)
 | 0,_,_,_,_=>none
 | n+1,l1,z2,z3,b5=>
  (if b5=true then getF l1 z2 fun x6=>ds_t45 x6 fun z7 s8 l9 z10 s11 l12 l13 z14 z15 s16 s17 s18 l19 l20 z21 z22=>bO1 (F26 n s8 z3) fun z23=>bO1 (F27 n l9 z23) fun z24=>bO1 (F28 n z10 s11 l12 z24) fun z25=>bO1 (F29 n l13 z25) fun z26=>bO1 (F30 n z14 z15 s16 s17 s18 l19 l20 z21 z26) fun z27=>letF (IntKind.wrap .i64 (z2+1)) fun z28=>L8_1 n l1 z28 z27 else (if z3<(0:Int)then some true else some false))
end
def F8 (n:Nat) (l1:LD):Option (Bool):=
 L8_1 n l1 (0:Int) (20000:Int)
theorem T8 (n:Nat):∀⦃l1 r1⦄,F8 n l1=some r1->
    Trip Tryz.prog inv 8 [.d (.agg [.list true 16 l1])] [] (.v (.d (.bool r1))) [] []:=by
 intro l1 r1 h
 unfold F8 at h
 refine Trip.of tab_ok tab_one fol Tryz.func8 rfl (by kernel_rfl) rfl rfl rfl (fun M hM hI=>?_)
 try cbv
 refine seq_go ?_
 try cbv
 refine seq_go ?_
 try cbv
 refine seq_go ?_
 try cbv
 refine seq_go ?_
 try cbv
 refine loop_inv (T:=Nat×Int×Int) [1,2,3,4] [.loc 0,.loc 96] 192 (fun t=>⟨[sL 1 0,sB 2 false,sL 3 96,sI 4 t.2.1],[(.loc 0,.cells [.d (.list true 16 l1)]),(.loc 96,.cells [.d (.int .i64 t.2.2)])],192⟩)
   (fun t=>t.1<=n/\L8_1 t.1 l1 t.2.1 t.2.2=some r1) (fun t=>t.1) (n,((0:Int),(20000:Int))) ⟨Nat.le_refl _,h⟩ (by cbv) ?_
 clear h
 rintro⟨m1,z2,z3⟩ ⟨hm1,h⟩
 replace hm1:m1<=n:=hm1
 obtain _ | m1:=m1
 ·replace h:L8_1 0 l1 z2 z3=some r1:=h
  rw[L8_1]at h
  cases h
 replace h:L8_1 (m1+1) l1 z2 z3=some r1:=h
 rw[L8_1]at h
 try cbv
 refine seq_go ?_
 try cbv
 refine seq_joinB 19 [1,2,3,4,19] [.loc 0,.loc 96] 576 (fun m b=>m<=m1/\L8_2 m l1 z2 z3 b=some r1) ?_ ?_
 ·try cbv
  replace h:=lenF_inv M h
  obtain⟨z4,hz,h⟩:=h
  refine⟨z4,hz,?_⟩
  clear hz
  try cbv
  refine splitL (fun e=>?_) (fun e=>?_)
  ·replace h:=ite_t e h
   clear e
   try cbv
   refine splitLe (fun e=>?_) (fun e=>?_)
   ·replace h:=ite_t e h
    clear e
    try cbv
    exact join_next (m1,true) [1,2,3,4,19] [.loc 0,.loc 96] 576 ⟨by omega,h⟩ (by cbv)
   replace h:=ite_f (Int.not_le.2 e) h
   clear e
   try cbv
   exact join_next (m1,false) [1,2,3,4,19] [.loc 0,.loc 96] 576 ⟨by omega,h⟩ (by cbv)
  replace h:=ite_f (Int.not_lt.2 e) h
  clear e
  try cbv
  exact join_next (m1,false) [1,2,3,4,19] [.loc 0,.loc 96] 576 ⟨by omega,h⟩ (by cbv)
 clear h
 rintro⟨m2,b5⟩ ⟨hm2,h⟩
 try cbv
 replace hm2:m2<=m1:=hm2
 obtain _ | m2:=m2
 ·replace h:L8_2 0 l1 z2 z3 b5=some r1:=h
  rw[L8_2]at h
  cases h
 replace h:L8_2 (m2+1) l1 z2 z3 b5=some r1:=h
 rw[L8_2]at h
 try cbv
 cases b5
 ·replace h:=itF h
  try cbv
  refine seq_go ?_
  try cbv
  refine splitL (fun e=>?_) (fun e=>?_)
  ·replace h:=ite_t e h
   clear e
   try cbv
   obtain rfl:=Option.some.inj h
   refine fin_go ?_
   try cbv
   exact⟨[],by trivial⟩
  replace h:=ite_f (Int.not_lt.2 e) h
  clear e
  try cbv
  obtain rfl:=Option.some.inj h
  refine fin_go ?_
  try cbv
  exact⟨[],by trivial⟩
 replace h:=itT h
 try cbv
 refine seq_go ?_
 try cbv
 refine seq_go ?_
 try cbv
 replace h:=getF_inv h
 obtain⟨x6,⟨hx0,hx⟩,h⟩:=h
 refine⟨x6,hx0,hx,?_⟩
 clear hx0 hx
 replace h:=ds_t45_inv h
 obtain⟨z7,s8,l9,z10,s11,l12,l13,z14,z15,s16,s17,s18,l19,l20,z21,z22,rfl,h⟩:=h
 try cbv
 refine seq_go ?_
 try cbv
 replace h:=bO1_inv h
 obtain⟨z23,hr,h⟩:=h
 refine call_go rfl rfl ?_
 try cbv
 refine call_with hM hI [.loc 96] (T26 _ hr) rfl (by simp) ⟨rfl,trivial⟩ ⟨trivial,trivial⟩ (by simp) ?_
 clear hr
 try cbv
 refine seq_go ?_
 try cbv
 replace h:=bO1_inv h
 obtain⟨z24,hr,h⟩:=h
 refine call_go rfl rfl ?_
 try cbv
 refine call_with hM hI [.loc 96] (T27 _ hr) rfl (by simp) ⟨rfl,trivial⟩ ⟨trivial,trivial⟩ (by simp) ?_
 clear hr
 try cbv
 refine seq_go ?_
 try cbv
 replace h:=bO1_inv h
 obtain⟨z25,hr,h⟩:=h
 refine call_go rfl rfl ?_
 try cbv
 refine call_with hM hI [.loc 96] (T28 _ hr) rfl (by simp) ⟨rfl,trivial⟩ ⟨trivial,trivial⟩ (by simp) ?_
 clear hr
 try cbv
 refine seq_go ?_
 try cbv
 replace h:=bO1_inv h
 obtain⟨z26,hr,h⟩:=h
 refine call_go rfl rfl ?_
 try cbv
 refine call_with hM hI [.loc 96] (T29 _ hr) rfl (by simp) ⟨rfl,trivial⟩ ⟨trivial,trivial⟩ (by simp) ?_
 clear hr
 try cbv
 replace h:=bO1_inv h
 obtain⟨z27,hr,h⟩:=h
 refine call_go rfl rfl ?_
 try cbv
 refine call_with hM hI [.loc 96] (T30 _ hr) rfl (by simp) ⟨rfl,trivial⟩ ⟨trivial,trivial⟩ (by simp) ?_
 clear hr
 try cbv
 replace h:=letF_inv h
 obtain⟨z28,hz,h⟩:=h
 refine⟨z28,hz,?_⟩
 clear hz
 try cbv
 exact loop_next (m2,(z28,z27)) [1,2,3,4] [.loc 0,.loc 96] 192 ⟨by omega,h⟩ (Nat.lt_succ_of_le (by omega)) (by cbv)
end Go.Proofs.YtjmofeakajdbiaaGreatDoor
end
