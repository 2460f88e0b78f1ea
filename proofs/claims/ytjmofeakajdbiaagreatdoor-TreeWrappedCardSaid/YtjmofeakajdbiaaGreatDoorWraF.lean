/- Part of a proof. No condition. (Part 6: YtjmofeakajdbiaaGreatDoorX115, YtjmofeakajdbiaaGreatDoorX114, YtjmofeakajdbiaaGreatDoorX113, YtjmofeakajdbiaaGreatDoorX56, YtjmofeakajdbiaaGreatDoorX24, YtjmofeakajdbiaaGreatDoorX116, YtjmofeakajdbiaaGreatDoorX141, YtjmofeakajdbiaaGreatDoorX65, YtjmofeakajdbiaaGreatDoorX64, YtjmofeakajdbiaaGreatDoor.) -/
import Derived.Carry
import Derived.ChangeSame
import Derived.ChangeOld
import Derived.ChangeCalls
import Derived.WideShapes
import Derived.Test.YtjmofeakajdbiaaGreatDoorWraE
set_option linter.unusedVariables false
set_option linter.unusedSimpArgs false
set_option maxRecDepth 100000
set_option maxHeartbeats 40000000
set_option linter.unusedVariables false
noncomputable section
namespace Go.Proofs.YtjmofeakajdbiaaGreatDoor
open Go Go.AM
mutual
def L115_1:Nat->LD->Int->LD->Int->Option LD
 | 0,_,_,_,_=>none
 | n+1,l1,z2,l3,z4=>
  (if z4<z2 then L115_2 n l1 z2 l3 z4 true else L115_2 n l1 z2 l3 z4 false)
def L115_2:Nat->LD->Int->LD->Int->Bool->Option LD
 | 0,_,_,_,_,_=>none
 | n+1,l1,z2,l3,z4,b5=>
  (if b5=true then getF l1 z4 fun x6=>ds_t74 x6 fun s7 z8 s9 l10=>bO4 (F112 n s7 z8 s9 l10) fun s11 z12 s13 l14=>appF 64 l3 ([.agg [.str s11,.int .u8 z12,.str s13,.list true 3 l14]]) fun l15=>letF (IntKind.wrap .i64 (z4+1)) fun z16=>L115_1 n l1 z2 l15 z16 else some l3)
end
def F115 (n:Nat) (l1:LD):Option LD:=
 lenF l1 fun z2=>L115_1 n l1 z2 ([]:LD) (0:Int)
theorem T115 (n:Nat):∀⦃l1 r1⦄,F115 n l1=some r1->
    Trip Tryz.prog inv 115 [.d (.list true 4 l1),.c (.fn 112 [.ext 0])] [.cells [.fn 102 [.ext 0]]] (.v (.d (.list true 4 r1))) [.cells [.fn 102 [.ext 0]]] []:=by
 intro l1 r1 h
 unfold F115 at h
 refine Trip.of tab_ok tab_one fol Tryz.func115 rfl (by kernel_rfl) rfl rfl rfl (fun M hM hI=>?_)
 try cbv
 refine seq_go ?_
 try cbv
 refine seq_go ?_
 try cbv
 refine seq_go ?_
 try cbv
 refine seq_go ?_
 try cbv
 replace h:=lenF_inv M h
 obtain⟨z2,hz,h⟩:=h
 refine⟨z2,hz,?_⟩
 clear hz
 try cbv
 refine loop_invT (T:=Nat×LD×Int) [.slot 5 true 4 74] [1,4,5,8,9,10] [.ext 0,.loc 160] 192 (fun t=>⟨[(1,.v (.c (.fn 112 [.ext 0]))),(4,.v (.c (.nils true 4))),(5,.v (.c (.lst (.loc 160) true 4 t.2.1))),sT 8 4 l1,sI 9 z2,sI 10 t.2.2],[(.ext 0,.cells [.fn 102 [.ext 0]]),(.loc 160,.tok t.2.1.length 4 74)],192⟩)
   (fun t=>t.1<=n/\L115_1 t.1 l1 z2 t.2.1 t.2.2=some r1) (fun t=>t.1) (n,(([]:LD),(0:Int))) ⟨Nat.le_refl _,h⟩ (by cbv) ?_
 clear h
 rintro⟨m1,l3,z4⟩ ⟨hm1,h⟩
 replace hm1:m1<=n:=hm1
 obtain _ | m1:=m1
 ·replace h:L115_1 0 l1 z2 l3 z4=some r1:=h
  rw[L115_1]at h
  cases h
 replace h:L115_1 (m1+1) l1 z2 l3 z4=some r1:=h
 rw[L115_1]at h
 try cbv
 refine seq_join (T:=Nat×Bool) (fun t=>⟨[(1,.v (.c (.fn 112 [.ext 0]))),(4,.v (.c (.nils true 4))),(5,.v (.c (.lst (.loc 160) true 4 l3))),sT 8 4 l1,sI 9 z2,sI 10 z4,sB 11 t.2],[(.ext 0,.cells [.fn 102 [.ext 0]]),(.loc 160,.tok l3.length 4 74)],224⟩) (fun t=>t.1<=m1/\L115_2 t.1 l1 z2 l3 z4 t.2=some r1) ?_ ?_
 ·try cbv
  refine splitL (fun e=>?_) (fun e=>?_)
  ·replace h:=ite_t e h
   clear e
   try cbv
   exact join_next (m1,true) [1,4,5,8,9,10,11] [.ext 0,.loc 160] 224 ⟨by omega,h⟩ (by cbv)
  replace h:=ite_f (Int.not_lt.2 e) h
  clear e
  try cbv
  exact join_next (m1,false) [1,4,5,8,9,10,11] [.ext 0,.loc 160] 224 ⟨by omega,h⟩ (by cbv)
 clear h
 rintro⟨m2,b5⟩ ⟨hm2,h⟩
 replace hm2:m2<=m1:=hm2
 obtain _ | m2:=m2
 ·replace h:L115_2 0 l1 z2 l3 z4 b5=some r1:=h
  rw[L115_2]at h
  cases h
 replace h:L115_2 (m2+1) l1 z2 l3 z4 b5=some r1:=h
 rw[L115_2]at h
 try cbv
 refine seq_go ?_
 try cbv
 cases b5
 ·replace h:=itF h
  try cbv
  refine seq_go ?_
  try cbv
  obtain rfl:=Option.some.inj h
  refine fin_go ?_
  try cbv
  exact⟨[],rfl,rfl,⟨rfl,trivial⟩,trivial,trivial⟩
 replace h:=itT h
 try cbv
 refine seq_go ?_
 try cbv
 refine seq_go ?_
 try cbv
 replace h:=getF_inv h
 obtain⟨x6,⟨hx0,hx⟩,h⟩:=h
 refine⟨x6,hx0,hx,?_⟩
 clear hx0 hx
 replace h:=ds_t74_inv h
 obtain⟨s7,z8,s9,l10,rfl,h⟩:=h
 try cbv
 replace h:=bO4_inv h
 obtain⟨s11,z12,s13,l14,hr,h⟩:=h
 refine call_go rfl rfl ?_
 try cbv
 refine call_with hM hI [.ext 0] (T112 _ hr) rfl (by simp) ⟨rfl,trivial⟩ ⟨trivial,trivial⟩ (by simp) ?_
 clear hr
 try cbv
 refine⟨false,?_⟩
 try cbv
 refine⟨true,?_⟩
 try cbv
 replace h:=appF_inv h
 obtain⟨l15,hb,hz,h⟩:=h
 refine⟨false,?_⟩
 try cbv
 first | refine⟨rfl,(M.lock_iff _).2 hb,l15,hz,?_⟩ | refine⟨(M.lock_iff _).2 hb,l15,hz,?_⟩
 clear hb hz
 try cbv
 replace h:=letF_inv h
 obtain⟨z16,hz,h⟩:=h
 refine⟨z16,hz,?_⟩
 clear hz
 try cbv
 exact loop_next (m2,(l15,z16)) [1,4,5,8,9,10] [.ext 0,.loc 160] 192 ⟨by omega,h⟩ (Nat.lt_succ_of_le (by omega)) (by cbv)
def F114 (n:Nat) (z1:Int) (s2:BA) (l3:LD) (z4:Int) (s5:BA) (l6:LD) (l7:LD) (z8:Int) (z9:Int) (s10:BA) (s11:BA) (s12:BA) (l13:LD) (l14:LD) (z15:Int) (z16:Int):Option (Int×BA×LD×Int×BA×LD×LD×Int×Int×BA×BA×BA×LD×LD):=
 bO1 (F115 n l3) fun l17=>bO3 (F102 n z4 s5 l6) fun z18 s19 l20=>bO1 (F109 n l7) fun l21=>bO7 (F106 n z8 z9 s10 s11 s12 l13 l14 z15) fun z22 z23 s24 s25 s26 l27 l28=>bO0 (F58 n z16) (some (z1,s2,l17,z18,s19,l20,l21,z22,z23,s24,s25,s26,l27,l28))
theorem T114 (n:Nat):∀⦃z1 s2 l3 z4 s5 l6 l7 z8 z9 s10 s11 s12 l13 l14 z15 z16 r1 r2 r3 r4 r5 r6 r7 r8 r9 r10 r11 r12 r13 r14⦄,F114 n z1 s2 l3 z4 s5 l6 l7 z8 z9 s10 s11 s12 l13 l14 z15 z16=some (r1,r2,r3,r4,r5,r6,r7,r8,r9,r10,r11,r12,r13,r14)->
    Trip Tryz.prog inv 114 [.d (.agg [.int .u8 z1,.str s2,.list true 4 l3,.int .u8 z4,.str s5,.list true 3 l6,.list true 15 l7,.int .u8 z8,.int .i64 z9,.str s10,.str s11,.str s12,.list false 1 l13,.list true 8 l14,.int .i64 z15,.int .i64 z16]),.c (.ptr (.ext 0) 0),.c (.ptr (.ext 1) 0),.c (.ptr (.ext 2) 0),.c (.ptr (.ext 4) 0),.c (.ptr (.ext 5) 0)] [.cells [.fn 112 [.ext 1]],.cells [.fn 102 [.ext 1]],.cells [.fn 110 [.ext 1,.ext 3,.ext 4,.ext 2,.ext 6,.ext 5]],.cells [.fn 104 []],.cells [.fn 106 [.ext 3,.ext 4,.ext 5]],.cells [.fn 58 []],.cells [.fn 108 [.ext 2]]] (.v (.d (.agg [.int .u8 r1,.str r2,.list true 4 r3,.int .u8 r4,.str r5,.list true 3 r6,.list true 15 r7,.int .u8 r8,.int .i64 r9,.str r10,.str r11,.str r12,.list false 1 r13,.list true 8 r14,.int .i64 0,.int .i64 0]))) [.cells [.fn 112 [.ext 1]],.cells [.fn 102 [.ext 1]],.cells [.fn 110 [.ext 1,.ext 3,.ext 4,.ext 2,.ext 6,.ext 5]],.cells [.fn 104 []],.cells [.fn 106 [.ext 3,.ext 4,.ext 5]],.cells [.fn 58 []],.cells [.fn 108 [.ext 2]]] []:=by
 intro z1 s2 l3 z4 s5 l6 l7 z8 z9 s10 s11 s12 l13 l14 z15 z16 r1 r2 r3 r4 r5 r6 r7 r8 r9 r10 r11 r12 r13 r14 h
 unfold F114 at h
 refine Trip.of tab_ok tab_one fol Tryz.func114 rfl (by kernel_rfl) rfl rfl rfl (fun M hM hI=>?_)
 try cbv
 refine seq_go ?_
 try cbv
 refine seq_go ?_
 try cbv
 replace h:=bO1_inv h
 obtain⟨l17,hr,h⟩:=h
 first | refine .inr (.inr ⟨[.ext 1],?_⟩) | refine .inr ⟨[.ext 1],?_⟩
 try cbv
 refine call_with hM hI [.ext 1] (T115 _ hr) rfl (by simp) ⟨rfl,trivial⟩ ⟨trivial,trivial⟩ (by simp) ?_
 try cbv
 first | refine⟨(rfl:(_:Option AObj)=_),?_⟩ | skip
 try cbv
 clear hr
 try cbv
 replace h:=bO3_inv h
 obtain⟨z18,s19,l20,hr,h⟩:=h
 first | refine .inr (.inr ⟨[.ext 1],?_⟩) | refine .inr ⟨[.ext 1],?_⟩
 try cbv
 refine call_with hM hI [.ext 1] (T102 _ hr) rfl (by simp) ⟨rfl,trivial⟩ ⟨trivial,trivial⟩ (by simp) ?_
 try cbv
 first | refine⟨(rfl:(_:Option AObj)=_),?_⟩ | skip
 try cbv
 clear hr
 try cbv
 replace h:=bO1_inv h
 obtain⟨l21,hr,h⟩:=h
 first | refine .inr (.inr ⟨[.ext 1,.ext 3,.ext 4,.ext 5,.ext 2,.ext 6],?_⟩) | refine .inr ⟨[.ext 1,.ext 3,.ext 4,.ext 5,.ext 2,.ext 6],?_⟩
 try cbv
 refine call_with hM hI [.ext 1,.ext 3,.ext 4,.ext 5,.ext 2,.ext 6] (T109 _ hr) rfl (by simp) ⟨rfl,⟨rfl,⟨rfl,⟨rfl,⟨rfl,⟨rfl,trivial⟩⟩⟩⟩⟩⟩ ⟨trivial,⟨trivial,⟨trivial,⟨trivial,⟨trivial,⟨trivial,trivial⟩⟩⟩⟩⟩⟩ (by simp) ?_
 try cbv
 first | refine⟨(rfl:(_:Option AObj)=_),?_⟩ | skip
 first | refine⟨(rfl:(_:Option AObj)=_),?_⟩ | skip
 first | refine⟨(rfl:(_:Option AObj)=_),?_⟩ | skip
 first | refine⟨(rfl:(_:Option AObj)=_),?_⟩ | skip
 first | refine⟨(rfl:(_:Option AObj)=_),?_⟩ | skip
 first | refine⟨(rfl:(_:Option AObj)=_),?_⟩ | skip
 try cbv
 clear hr
 try cbv
 replace h:=bO7_inv h
 obtain⟨z22,z23,s24,s25,s26,l27,l28,hr,h⟩:=h
 first | refine .inr (.inr ⟨[.ext 3,.ext 4,.ext 5],?_⟩) | refine .inr ⟨[.ext 3,.ext 4,.ext 5],?_⟩
 try cbv
 refine call_with hM hI [.ext 3,.ext 4,.ext 5] (T106 _ hr) rfl (by simp) ⟨rfl,⟨rfl,⟨rfl,trivial⟩⟩⟩ ⟨trivial,⟨trivial,⟨trivial,trivial⟩⟩⟩ (by simp) ?_
 try cbv
 first | refine⟨(rfl:(_:Option AObj)=_),?_⟩ | skip
 first | refine⟨(rfl:(_:Option AObj)=_),?_⟩ | skip
 first | refine⟨(rfl:(_:Option AObj)=_),?_⟩ | skip
 try cbv
 clear hr
 try cbv
 replace h:=bO0_inv h
 obtain⟨hr,h⟩:=h
 first | refine .inr (.inl ⟨[],?_⟩) | refine .inl ⟨[],?_⟩
 try cbv
 refine call_pure hM hI (T58 _ hr) rfl ?_
 clear hr
 try cbv
 refine drawn ?_ ?_
 ·show _=true
  kernel_rfl
 try cbv
 refine seq_go ?_
 try cbv
 obtain⟨rfl,rfl,rfl,rfl,rfl,rfl,rfl,rfl,rfl,rfl,rfl,rfl,rfl,rfl⟩:=inj14 h
 refine fin_go ?_
 try cbv
 exact⟨[],rfl,rfl,⟨rfl,⟨rfl,⟨rfl,⟨rfl,⟨rfl,⟨rfl,⟨rfl,trivial⟩⟩⟩⟩⟩⟩⟩,trivial,trivial⟩
mutual
def L113_1:Nat->LD->Int->LD->Int->Option LD
 | 0,_,_,_,_=>none
 | n+1,l1,z2,l3,z4=>
  (if z4<z2 then L113_2 n l1 z2 l3 z4 true else L113_2 n l1 z2 l3 z4 false)
def L113_2:Nat->LD->Int->LD->Int->Bool->Option LD
 | 0,_,_,_,_,_=>none
 | n+1,l1,z2,l3,z4,b5=>
  (if b5=true then getF l1 z4 fun x6=>ds_t45 x6 fun z7 s8 l9 z10 s11 l12 l13 z14 z15 s16 s17 s18 l19 l20 z21 z22=>bO14 (F114 n z7 s8 l9 z10 s11 l12 l13 z14 z15 s16 s17 s18 l19 l20 z21 z22) fun z23 s24 l25 z26 s27 l28 l29 z30 z31 s32 s33 s34 l35 l36=>appF 248 l3 ([.agg [.int .u8 z23,.str s24,.list true 4 l25,.int .u8 z26,.str s27,.list true 3 l28,.list true 15 l29,.int .u8 z30,.int .i64 z31,.str s32,.str s33,.str s34,.list false 1 l35,.list true 8 l36,.int .i64 0,.int .i64 0]]) fun l37=>letF (IntKind.wrap .i64 (z4+1)) fun z38=>L113_1 n l1 z2 l37 z38 else some l3)
end
def F113 (n:Nat) (l1:LD):Option LD:=
 lenF l1 fun z2=>L113_1 n l1 z2 ([]:LD) (0:Int)
theorem T113 (n:Nat):∀⦃l1 r1⦄,F113 n l1=some r1->
    Trip Tryz.prog inv 113 [.d (.list true 16 l1),.c (.fn 114 [.ext 0,.ext 1,.ext 2,.ext 4,.ext 5])] [.cells [.fn 112 [.ext 1]],.cells [.fn 102 [.ext 1]],.cells [.fn 110 [.ext 1,.ext 3,.ext 4,.ext 2,.ext 6,.ext 5]],.cells [.fn 104 []],.cells [.fn 106 [.ext 3,.ext 4,.ext 5]],.cells [.fn 58 []],.cells [.fn 108 [.ext 2]]] (.v (.d (.list true 16 r1))) [.cells [.fn 112 [.ext 1]],.cells [.fn 102 [.ext 1]],.cells [.fn 110 [.ext 1,.ext 3,.ext 4,.ext 2,.ext 6,.ext 5]],.cells [.fn 104 []],.cells [.fn 106 [.ext 3,.ext 4,.ext 5]],.cells [.fn 58 []],.cells [.fn 108 [.ext 2]]] []:=by
 intro l1 r1 h
 unfold F113 at h
 refine Trip.of tab_ok tab_one fol Tryz.func113 rfl (by kernel_rfl) rfl rfl rfl (fun M hM hI=>?_)
 try cbv
 refine seq_go ?_
 try cbv
 refine seq_go ?_
 try cbv
 refine seq_go ?_
 try cbv
 refine seq_go ?_
 try cbv
 replace h:=lenF_inv M h
 obtain⟨z2,hz,h⟩:=h
 refine⟨z2,hz,?_⟩
 clear hz
 try cbv
 refine loop_invT (T:=Nat×LD×Int) [.slot 5 true 16 45] [1,4,5,8,9,10] [.ext 0,.ext 1,.ext 2,.ext 3,.ext 4,.ext 5,.ext 6,.loc 160] 192 (fun t=>⟨[(1,.v (.c (.fn 114 [.ext 0,.ext 1,.ext 2,.ext 4,.ext 5]))),(4,.v (.c (.nils true 16))),(5,.v (.c (.lst (.loc 160) true 16 t.2.1))),sT 8 16 l1,sI 9 z2,sI 10 t.2.2],[(.ext 0,.cells [.fn 112 [.ext 1]]),(.ext 1,.cells [.fn 102 [.ext 1]]),(.ext 2,.cells [.fn 110 [.ext 1,.ext 3,.ext 4,.ext 2,.ext 6,.ext 5]]),(.ext 3,.cells [.fn 104 []]),(.ext 4,.cells [.fn 106 [.ext 3,.ext 4,.ext 5]]),(.ext 5,.cells [.fn 58 []]),(.ext 6,.cells [.fn 108 [.ext 2]]),(.loc 160,.tok t.2.1.length 16 45)],192⟩)
   (fun t=>t.1<=n/\L113_1 t.1 l1 z2 t.2.1 t.2.2=some r1) (fun t=>t.1) (n,(([]:LD),(0:Int))) ⟨Nat.le_refl _,h⟩ (by cbv) ?_
 clear h
 rintro⟨m1,l3,z4⟩ ⟨hm1,h⟩
 replace hm1:m1<=n:=hm1
 obtain _ | m1:=m1
 ·replace h:L113_1 0 l1 z2 l3 z4=some r1:=h
  rw[L113_1]at h
  cases h
 replace h:L113_1 (m1+1) l1 z2 l3 z4=some r1:=h
 rw[L113_1]at h
 try cbv
 refine seq_join (T:=Nat×Bool) (fun t=>⟨[(1,.v (.c (.fn 114 [.ext 0,.ext 1,.ext 2,.ext 4,.ext 5]))),(4,.v (.c (.nils true 16))),(5,.v (.c (.lst (.loc 160) true 16 l3))),sT 8 16 l1,sI 9 z2,sI 10 z4,sB 11 t.2],[(.ext 0,.cells [.fn 112 [.ext 1]]),(.ext 1,.cells [.fn 102 [.ext 1]]),(.ext 2,.cells [.fn 110 [.ext 1,.ext 3,.ext 4,.ext 2,.ext 6,.ext 5]]),(.ext 3,.cells [.fn 104 []]),(.ext 4,.cells [.fn 106 [.ext 3,.ext 4,.ext 5]]),(.ext 5,.cells [.fn 58 []]),(.ext 6,.cells [.fn 108 [.ext 2]]),(.loc 160,.tok l3.length 16 45)],224⟩) (fun t=>t.1<=m1/\L113_2 t.1 l1 z2 l3 z4 t.2=some r1) ?_ ?_
 ·try cbv
  refine splitL (fun e=>?_) (fun e=>?_)
  ·replace h:=ite_t e h
   clear e
   try cbv
   exact join_next (m1,true) [1,4,5,8,9,10,11] [.ext 0,.ext 1,.ext 2,.ext 3,.ext 4,.ext 5,.ext 6,.loc 160] 224 ⟨by omega,h⟩ (by cbv)
  replace h:=ite_f (Int.not_lt.2 e) h
  clear e
  try cbv
  exact join_next (m1,false) [1,4,5,8,9,10,11] [.ext 0,.ext 1,.ext 2,.ext 3,.ext 4,.ext 5,.ext 6,.loc 160] 224 ⟨by omega,h⟩ (by cbv)
 clear h
 rintro⟨m2,b5⟩ ⟨hm2,h⟩
 replace hm2:m2<=m1:=hm2
 obtain _ | m2:=m2
 ·replace h:L113_2 0 l1 z2 l3 z4 b5=some r1:=h
  rw[L113_2]at h
  cases h
 replace h:L113_2 (m2+1) l1 z2 l3 z4 b5=some r1:=h
 rw[L113_2]at h
 try cbv
 refine seq_go ?_
 try cbv
 cases b5
 ·replace h:=itF h
  try cbv
  refine seq_go ?_
  try cbv
  obtain rfl:=Option.some.inj h
  refine fin_go ?_
  try cbv
  exact⟨[],rfl,rfl,⟨rfl,⟨rfl,⟨rfl,⟨rfl,⟨rfl,⟨rfl,⟨rfl,trivial⟩⟩⟩⟩⟩⟩⟩,trivial,trivial⟩
 replace h:=itT h
 try cbv
 refine seq_go ?_
 try cbv
 refine seq_go ?_
 try cbv
 replace h:=getF_inv h
 obtain⟨x6,⟨hx0,hx⟩,h⟩:=h
 refine⟨x6,hx0,hx,?_⟩
 clear hx0 hx
 replace h:=ds_t45_inv h
 obtain⟨z7,s8,l9,z10,s11,l12,l13,z14,z15,s16,s17,s18,l19,l20,z21,z22,rfl,h⟩:=h
 try cbv
 replace h:=bO14_inv h
 obtain⟨z23,s24,l25,z26,s27,l28,l29,z30,z31,s32,s33,s34,l35,l36,hr,h⟩:=h
 refine call_go rfl rfl ?_
 try cbv
 refine call_with hM hI [.ext 0,.ext 1,.ext 2,.ext 3,.ext 4,.ext 5,.ext 6] (T114 _ hr) rfl (by simp) ⟨rfl,⟨rfl,⟨rfl,⟨rfl,⟨rfl,⟨rfl,⟨rfl,trivial⟩⟩⟩⟩⟩⟩⟩ ⟨trivial,⟨trivial,⟨trivial,⟨trivial,⟨trivial,⟨trivial,⟨trivial,trivial⟩⟩⟩⟩⟩⟩⟩ (by simp) ?_
 clear hr
 try cbv
 refine⟨false,?_⟩
 try cbv
 refine⟨true,?_⟩
 try cbv
 replace h:=appF_inv h
 obtain⟨l37,hb,hz,h⟩:=h
 refine⟨false,?_⟩
 try cbv
 first | refine⟨rfl,(M.lock_iff _).2 hb,l37,hz,?_⟩ | refine⟨(M.lock_iff _).2 hb,l37,hz,?_⟩
 clear hb hz
 try cbv
 replace h:=letF_inv h
 obtain⟨z38,hz,h⟩:=h
 refine⟨z38,hz,?_⟩
 clear hz
 try cbv
 exact loop_next (m2,(l37,z38)) [1,4,5,8,9,10] [.ext 0,.ext 1,.ext 2,.ext 3,.ext 4,.ext 5,.ext 6,.loc 160] 192 ⟨by omega,h⟩ (Nat.lt_succ_of_le (by omega)) (by cbv)
def F56 (n:Nat) (l1:LD):Option LD:=
 bO1 (F113 n l1) fun l2=>some l2
theorem T56 (n:Nat):∀⦃l1 r1⦄,F56 n l1=some r1->
    Trip Tryz.prog inv 56 [.d (.agg [.list true 16 l1]),.c (.fn 58 [])] [] (.v (.d (.agg [.list true 16 r1]))) [] []:=by
 intro l1 r1 h
 unfold F56 at h
 refine Trip.of tab_ok tab_one fol Tryz.func56 rfl (by kernel_rfl) rfl rfl rfl (fun M hM hI=>?_)
 try cbv
 refine seq_go ?_
 try cbv
 refine seq_go ?_
 try cbv
 refine seq_go ?_
 try cbv
 refine seq_go ?_
 try cbv
 refine seq_go ?_
 try cbv
 refine seq_go ?_
 try cbv
 refine seq_go ?_
 try cbv
 refine seq_go ?_
 try cbv
 refine seq_go ?_
 try cbv
 refine seq_go ?_
 try cbv
 refine seq_go ?_
 try cbv
 replace h:=bO1_inv h
 obtain⟨l2,hr,h⟩:=h
 refine call_go rfl rfl ?_
 try cbv
 refine call_with hM hI [.loc 576,.loc 96,.loc 160,.loc 256,.loc 128,.loc 32,.loc 416] (T113 _ hr) rfl (by simp) ⟨rfl,⟨rfl,⟨rfl,⟨rfl,⟨rfl,⟨rfl,⟨rfl,trivial⟩⟩⟩⟩⟩⟩⟩ ⟨trivial,⟨trivial,⟨trivial,⟨trivial,⟨trivial,⟨trivial,⟨trivial,trivial⟩⟩⟩⟩⟩⟩⟩ (by simp) ?_
 clear hr
 try cbv
 obtain rfl:=Option.some.inj h
 refine fin_go ?_
 try cbv
 exact⟨[],by trivial⟩
def F24 (n:Nat) (l1:LD):Option LD:=
 bO1 (F56 n l1) fun l2=>some l2
theorem T24 (n:Nat):∀⦃l1 r1⦄,F24 n l1=some r1->
    Trip Tryz.prog inv 24 [.d (.agg [.list true 16 l1])] [] (.v (.d (.agg [.list true 16 r1]))) [] []:=by
 intro l1 r1 h
 unfold F24 at h
 refine Trip.of tab_ok tab_one fol Tryz.func24 rfl (by kernel_rfl) rfl rfl rfl (fun M hM hI=>?_)
 try cbv
 refine seq_go ?_
 try cbv
 refine seq_go ?_
 try cbv
 replace h:=bO1_inv h
 obtain⟨l2,hr,h⟩:=h
 refine call_go rfl rfl ?_
 try cbv
 refine call_pure hM hI (T56 _ hr) rfl ?_
 clear hr
 try cbv
 obtain rfl:=Option.some.inj h
 refine fin_go ?_
 try cbv
 exact⟨[],by trivial⟩
mutual
def L116_1:Nat->LD->LD->Bool->Option (Bool)
 | 0,_,_,_=>none
 | n+1,l1,l2,b5=>
  (if b5=true then some false else lenF l1 fun z6=>L116_2 n l1 l2 z6 (0:Int))
def L116_2:Nat->LD->LD->Int->Int->Option (Bool)
 | 0,_,_,_,_=>none
 | n+1,l1,l2,z6,z7=>
  (if z7<z6 then L116_3 n l1 l2 z6 z7 true else L116_3 n l1 l2 z6 z7 false)
def L116_3:Nat->LD->LD->Int->Int->Bool->Option (Bool)
 | 0,_,_,_,_,_=>none
 | n+1,l1,l2,z6,z7,b8=>
  (if b8=true then getF l1 z7 fun x9=>ds_t33 x9 fun z10 s11 l12=>getF l2 z7 fun x13=>ds_t33 x13 fun z14 s15 l16=>bO1 (F61 n z10 s11 l12 z14 s15 l16) fun b17=>letB (!b17) fun b18=>(if b18=true then some false else letF (IntKind.wrap .i64 (z7+1)) fun z19=>L116_2 n l1 l2 z6 z19)else some true)
def F116:Nat->LD->LD->Option (Bool)
 | 0,_,_=>none
 | n+1,l1,l2=>
  lenF l1 fun z3=>lenF l2 fun z4=>(if z3=z4 then L116_1 n l1 l2 false else L116_1 n l1 l2 true)
def F61:Nat->Int->BA->LD->Int->BA->LD->Option (Bool)
 | 0,_,_,_,_,_,_=>none
 | n+1,z1,s2,l3,z4,s5,l6=>
  (if z1=z4 then (if s2=s5 then bO1 (F116 n l3 l6) fun b7=>some b7 else some false)else some false)
end
theorem G116 (n:Nat):(∀⦃l1 l2 r1⦄,F116 n l1 l2=some r1->
    Trip Tryz.prog inv 116 [.d (.list true 3 l1),.d (.list true 3 l2),.c (.fn 61 [])] [] (.v (.d (.bool r1))) [] [])/\
    (∀⦃z1 s2 l3 z4 s5 l6 r1⦄,F61 n z1 s2 l3 z4 s5 l6=some r1->
    Trip Tryz.prog inv 61 [.d (.agg [.int .u8 z1,.str s2,.list true 3 l3]),.d (.agg [.int .u8 z4,.str s5,.list true 3 l6])] [] (.v (.d (.bool r1))) [] []):=by
 induction n using Nat.strongRecOn with | _ n ih=>
 obtain _ | n:=n
 ·refine⟨?_,?_⟩
  ·intro l1 l2 r1 h
   cases (show (none:Option _)=some _ from h)
  intro z1 s2 l3 z4 s5 l6 r1 h
  cases (show (none:Option _)=some _ from h)
 refine⟨?_,?_⟩
 rotate_left
 ·intro z1 s2 l3 z4 s5 l6 r1 h
  rw[F61]at h
  refine Trip.of tab_ok tab_one fol Tryz.func61 rfl (by kernel_rfl) rfl rfl rfl (fun M hM hI=>?_)
  try cbv
  refine seq_go ?_
  try cbv
  refine seq_go ?_
  try cbv
  refine splitI (fun e=>?_) (fun e=>?_)
  rotate_left
  ·replace h:=ite_f e h
   clear e
   try cbv
   obtain rfl:=Option.some.inj h
   refine fin_go ?_
   try cbv
   exact⟨[],by trivial⟩
  replace h:=ite_t e h
  clear e
  try cbv
  refine splitS (fun e=>?_) (fun e=>?_)
  ·replace h:=ite_t (bytes_eq.1 e) h
   clear e
   try cbv
   replace h:=bO1_inv h
   obtain⟨b7,hr,h⟩:=h
   refine call_go rfl rfl ?_
   try cbv
   refine call_pure hM hI ((ih _ (by omega)).1 hr) rfl ?_
   clear hr
   try cbv
   obtain rfl:=Option.some.inj h
   refine fin_go ?_
   try cbv
   exact⟨[],by trivial⟩
  replace h:=ite_f (bytes_ne.1 e) h
  clear e
  try cbv
  obtain rfl:=Option.some.inj h
  refine fin_go ?_
  try cbv
  exact⟨[],by trivial⟩
 intro l1 l2 r1 h
 rw[F116]at h
 refine Trip.of tab_ok tab_one fol Tryz.func116 rfl (by kernel_rfl) rfl rfl rfl (fun M hM hI=>?_)
 try cbv
 refine seq_go ?_
 try cbv
 refine seq_go ?_
 try cbv
 refine seq_join (T:=Nat×Bool) (fun t=>⟨[sT 0 3 l1,sT 1 3 l2,(2,.v (.c (.fn 61 []))),sB 6 false,sB 14 t.2],[],192⟩) (fun t=>t.1<=n/\L116_1 t.1 l1 l2 t.2=some r1) ?_ ?_
 ·try cbv
  replace h:=lenF_inv M h
  obtain⟨z3,hz,h⟩:=h
  refine⟨z3,hz,?_⟩
  clear hz
  try cbv
  replace h:=lenF_inv M h
  obtain⟨z4,hz,h⟩:=h
  refine⟨z4,hz,?_⟩
  clear hz
  try cbv
  refine splitI (fun e=>?_) (fun e=>?_)
  ·replace h:=ite_t e h
   clear e
   try cbv
   exact join_next (n,false) [0,1,2,6,14] [] 192 ⟨by omega,h⟩ (by cbv)
  replace h:=ite_f e h
  clear e
  try cbv
  exact join_next (n,true) [0,1,2,6,14] [] 192 ⟨by omega,h⟩ (by cbv)
 clear h
 rintro⟨m1,b5⟩ ⟨hm1,h⟩
 replace hm1:m1<=n:=hm1
 obtain _ | m1:=m1
 ·replace h:L116_1 0 l1 l2 b5=some r1:=h
  rw[L116_1]at h
  cases h
 replace h:L116_1 (m1+1) l1 l2 b5=some r1:=h
 rw[L116_1]at h
 try cbv
 cases b5
 rotate_left
 ·replace h:=itT h
  try cbv
  refine seq_go ?_
  try cbv
  obtain rfl:=Option.some.inj h
  refine fin_go ?_
  try cbv
  exact⟨[],by trivial⟩
 replace h:=itF h
 try cbv
 refine seq_go ?_
 try cbv
 refine seq_go ?_
 try cbv
 replace h:=lenF_inv M h
 obtain⟨z6,hz,h⟩:=h
 refine⟨z6,hz,?_⟩
 clear hz
 try cbv
 refine loop_inv (T:=Nat×Int) [1,2,6,15,16,17] [] 288 (fun t=>⟨[sT 1 3 l2,(2,.v (.c (.fn 61 []))),sB 6 false,sT 15 3 l1,sI 16 z6,sI 17 t.2],[],288⟩)
   (fun t=>t.1<=m1/\L116_2 t.1 l1 l2 z6 t.2=some r1) (fun t=>t.1) (m1,(0:Int)) ⟨Nat.le_refl _,h⟩ (by cbv) ?_
 clear h
 rintro⟨m2,z7⟩ ⟨hm2,h⟩
 replace hm2:m2<=m1:=hm2
 obtain _ | m2:=m2
 ·replace h:L116_2 0 l1 l2 z6 z7=some r1:=h
  rw[L116_2]at h
  cases h
 replace h:L116_2 (m2+1) l1 l2 z6 z7=some r1:=h
 rw[L116_2]at h
 try cbv
 refine seq_join (T:=Nat×Bool) (fun t=>⟨[sT 1 3 l2,(2,.v (.c (.fn 61 []))),sB 6 false,sT 15 3 l1,sI 16 z6,sI 17 z7,sB 18 t.2],[],320⟩) (fun t=>t.1<=m2/\L116_3 t.1 l1 l2 z6 z7 t.2=some r1) ?_ ?_
 ·try cbv
  refine splitL (fun e=>?_) (fun e=>?_)
  ·replace h:=ite_t e h
   clear e
   try cbv
   exact join_next (m2,true) [1,2,6,15,16,17,18] [] 320 ⟨by omega,h⟩ (by cbv)
  replace h:=ite_f (Int.not_lt.2 e) h
  clear e
  try cbv
  exact join_next (m2,false) [1,2,6,15,16,17,18] [] 320 ⟨by omega,h⟩ (by cbv)
 clear h
 rintro⟨m3,b8⟩ ⟨hm3,h⟩
 replace hm3:m3<=m2:=hm3
 obtain _ | m3:=m3
 ·replace h:L116_3 0 l1 l2 z6 z7 b8=some r1:=h
  rw[L116_3]at h
  cases h
 replace h:L116_3 (m3+1) l1 l2 z6 z7 b8=some r1:=h
 rw[L116_3]at h
 try cbv
 refine seq_go ?_
 try cbv
 cases b8
 ·replace h:=itF h
  try cbv
  refine seq_go ?_
  try cbv
  obtain rfl:=Option.some.inj h
  refine fin_go ?_
  try cbv
  exact⟨[],by trivial⟩
 replace h:=itT h
 try cbv
 refine seq_go ?_
 try cbv
 refine seq_go ?_
 try cbv
 replace h:=getF_inv h
 obtain⟨x9,⟨hx0,hx⟩,h⟩:=h
 refine⟨x9,hx0,hx,?_⟩
 clear hx0 hx
 replace h:=ds_t33_inv h
 obtain⟨z10,s11,l12,rfl,h⟩:=h
 try cbv
 refine seq_go ?_
 try cbv
 replace h:=getF_inv h
 obtain⟨x13,⟨hx0,hx⟩,h⟩:=h
 refine⟨x13,hx0,hx,?_⟩
 clear hx0 hx
 replace h:=ds_t33_inv h
 obtain⟨z14,s15,l16,rfl,h⟩:=h
 try cbv
 refine seq_go ?_
 try cbv
 replace h:=bO1_inv h
 obtain⟨b17,hr,h⟩:=h
 refine call_go rfl rfl ?_
 try cbv
 refine call_pure hM hI ((ih _ (by omega)).2 hr) rfl ?_
 clear hr
 try cbv
 replace h:=letB_inv h
 obtain⟨b18,hz,h⟩:=h
 refine⟨b18,not_eq' hz,?_⟩
 clear hz
 try cbv
 cases b18
 ·replace h:=itF h
  try cbv
  replace h:=letF_inv h
  obtain⟨z19,hz,h⟩:=h
  refine⟨z19,hz,?_⟩
  clear hz
  try cbv
  exact loop_next (m3,z19) [1,2,6,15,16,17] [] 288 ⟨by omega,h⟩ (Nat.lt_succ_of_le (by omega)) (by cbv)
 replace h:=itT h
 try cbv
 refine seq_go ?_
 try cbv
 obtain rfl:=Option.some.inj h
 refine fin_go ?_
 try cbv
 exact⟨[],by trivial⟩
theorem T61 (n:Nat):∀⦃z1 s2 l3 z4 s5 l6 r1⦄,F61 n z1 s2 l3 z4 s5 l6=some r1->
  Trip Tryz.prog inv 61 [.d (.agg [.int .u8 z1,.str s2,.list true 3 l3]),.d (.agg [.int .u8 z4,.str s5,.list true 3 l6])] [] (.v (.d (.bool r1))) [] []:=(G116 n).2
mutual
def F141:Nat->BA->BA->LD->BA->BA->LD->Option (Bool)
 | 0,_,_,_,_,_,_=>none
 | n+1,s1,s2,l3,s4,s5,l6=>
  (if s1=s4 then (if s2=s5 then bO1 (F63 n l3 l6) fun b7=>some b7 else some false)else some false)
def L140_1:Nat->LD->LD->Bool->Option (Bool)
 | 0,_,_,_=>none
 | n+1,l1,l2,b5=>
  (if b5=true then some false else lenF l1 fun z6=>L140_2 n l1 l2 z6 (0:Int))
def L140_2:Nat->LD->LD->Int->Int->Option (Bool)
 | 0,_,_,_,_=>none
 | n+1,l1,l2,z6,z7=>
  (if z7<z6 then L140_3 n l1 l2 z6 z7 true else L140_3 n l1 l2 z6 z7 false)
def L140_3:Nat->LD->LD->Int->Int->Bool->Option (Bool)
 | 0,_,_,_,_,_=>none
 | n+1,l1,l2,z6,z7,b8=>
  (if b8=true then getF l1 z7 fun x9=>ds_t95 x9 fun s10 s11 l12=>getF l2 z7 fun x13=>ds_t95 x13 fun s14 s15 l16=>bO1 (F141 n s10 s11 l12 s14 s15 l16) fun b17=>letB (!b17) fun b18=>(if b18=true then some false else letF (IntKind.wrap .i64 (z7+1)) fun z19=>L140_2 n l1 l2 z6 z19)else some true)
def F140:Nat->LD->LD->Option (Bool)
 | 0,_,_=>none
 | n+1,l1,l2=>
  lenF l1 fun z3=>lenF l2 fun z4=>(if z3=z4 then L140_1 n l1 l2 false else L140_1 n l1 l2 true)
def F120:Nat->Int->BA->BA->LD->Int->BA->LD->Int->BA->LD->LD->LD->LD->LD->Int->Int->BA->BA->LD->Int->BA->LD->Int->BA->LD->LD->LD->LD->LD->Int->Option (Bool)
 | 0,_,_,_,_,_,_,_,_,_,_,_,_,_,_,_,_,_,_,_,_,_,_,_,_,_,_,_,_,_,_=>none
 | n+1,z1,s2,s3,l4,z5,s6,l7,z8,s9,l10,l11,l12,l13,l14,z15,z16,s17,s18,l19,z20,s21,l22,z23,s24,l25,l26,l27,l28,l29,z30=>
  (if z1=z16 then (if s2=s17 then (if s3=s18 then bO1 (F139 n l4 l19) fun b31=>(if b31=true then bO1 (F61 n z5 s6 l7 z20 s21 l22) fun b32=>(if b32=true then (if z8=z23 then bO1 (F117 n s9 l10 s24 l25) fun b33=>(if b33=true then bO1 (F118 n l11 l26) fun b34=>(if b34=true then bO1 (F63 n l12 l27) fun b35=>(if b35=true then bO1 (F63 n l13 l28) fun b36=>(if b36=true then bO1 (F140 n l14 l29) fun b37=>some b37 else some false)else some false)else some false)else some false)else some false)else some false)else some false)else some false)else some false)else some false)
def L119_1:Nat->LD->LD->Bool->Option (Bool)
 | 0,_,_,_=>none
 | n+1,l1,l2,b5=>
  (if b5=true then some false else lenF l1 fun z6=>L119_2 n l1 l2 z6 (0:Int))
def L119_2:Nat->LD->LD->Int->Int->Option (Bool)
 | 0,_,_,_,_=>none
 | n+1,l1,l2,z6,z7=>
  (if z7<z6 then L119_3 n l1 l2 z6 z7 true else L119_3 n l1 l2 z6 z7 false)
def L119_3:Nat->LD->LD->Int->Int->Bool->Option (Bool)
 | 0,_,_,_,_,_=>none
 | n+1,l1,l2,z6,z7,b8=>
  (if b8=true then getF l1 z7 fun x9=>ds_t50 x9 fun z10 s11 s12 l13 z14 s15 l16 z17 s18 l19 l20 l21 l22 l23 z24=>getF l2 z7 fun x25=>ds_t50 x25 fun z26 s27 s28 l29 z30 s31 l32 z33 s34 l35 l36 l37 l38 l39 z40=>bO1 (F120 n z10 s11 s12 l13 z14 s15 l16 z17 s18 l19 l20 l21 l22 l23 z24 z26 s27 s28 l29 z30 s31 l32 z33 s34 l35 l36 l37 l38 l39 z40) fun b41=>letB (!b41) fun b42=>(if b42=true then some false else letF (IntKind.wrap .i64 (z7+1)) fun z43=>L119_2 n l1 l2 z6 z43)else some true)
def F119:Nat->LD->LD->Option (Bool)
 | 0,_,_=>none
 | n+1,l1,l2=>
  lenF l1 fun z3=>lenF l2 fun z4=>(if z3=z4 then L119_1 n l1 l2 false else L119_1 n l1 l2 true)
def F63:Nat->LD->LD->Option (Bool)
 | 0,_,_=>none
 | n+1,l1,l2=>
  bO1 (F119 n l1 l2) fun b3=>some b3
end
theorem G141 (n:Nat):(∀⦃s1 s2 l3 s4 s5 l6 r1⦄,F141 n s1 s2 l3 s4 s5 l6=some r1->
    Trip Tryz.prog inv 141 [.d (.agg [.str s1,.str s2,.list true 15 l3]),.d (.agg [.str s4,.str s5,.list true 15 l6])] [] (.v (.d (.bool r1))) [] [])/\
    (∀⦃l1 l2 r1⦄,F140 n l1 l2=some r1->
    Trip Tryz.prog inv 140 [.d (.list true 3 l1),.d (.list true 3 l2),.c (.fn 141 [])] [] (.v (.d (.bool r1))) [] [])/\
    (∀⦃z1 s2 s3 l4 z5 s6 l7 z8 s9 l10 l11 l12 l13 l14 z15 z16 s17 s18 l19 z20 s21 l22 z23 s24 l25 l26 l27 l28 l29 z30 r1⦄,F120 n z1 s2 s3 l4 z5 s6 l7 z8 s9 l10 l11 l12 l13 l14 z15 z16 s17 s18 l19 z20 s21 l22 z23 s24 l25 l26 l27 l28 l29 z30=some r1->
    Trip Tryz.prog inv 120 [.d (.agg [.int .u8 z1,.str s2,.str s3,.list false 1 l4,.int .u8 z5,.str s6,.list true 3 l7,.int .i64 z8,.str s9,.list false 1 l10,.list true 8 l11,.list true 15 l12,.list true 15 l13,.list true 3 l14,.int .i64 z15]),.d (.agg [.int .u8 z16,.str s17,.str s18,.list false 1 l19,.int .u8 z20,.str s21,.list true 3 l22,.int .i64 z23,.str s24,.list false 1 l25,.list true 8 l26,.list true 15 l27,.list true 15 l28,.list true 3 l29,.int .i64 z30])] [] (.v (.d (.bool r1))) [] [])/\
    (∀⦃l1 l2 r1⦄,F119 n l1 l2=some r1->
    Trip Tryz.prog inv 119 [.d (.list true 15 l1),.d (.list true 15 l2),.c (.fn 120 [])] [] (.v (.d (.bool r1))) [] [])/\
    (∀⦃l1 l2 r1⦄,F63 n l1 l2=some r1->
    Trip Tryz.prog inv 63 [.d (.list true 15 l1),.d (.list true 15 l2)] [] (.v (.d (.bool r1))) [] []):=by
 induction n using Nat.strongRecOn with | _ n ih=>
 obtain _ | n:=n
 ·refine⟨?_,?_,?_,?_,?_⟩
  ·intro s1 s2 l3 s4 s5 l6 r1 h
   cases (show (none:Option _)=some _ from h)
  ·intro l1 l2 r1 h
   cases (show (none:Option _)=some _ from h)
  ·intro z1 s2 s3 l4 z5 s6 l7 z8 s9 l10 l11 l12 l13 l14 z15 z16 s17 s18 l19 z20 s21 l22 z23 s24 l25 l26 l27 l28 l29 z30 r1 h
   cases (show (none:Option _)=some _ from h)
  ·intro l1 l2 r1 h
   cases (show (none:Option _)=some _ from h)
  intro l1 l2 r1 h
  cases (show (none:Option _)=some _ from h)
 refine⟨?_,?_,?_,?_,?_⟩
 ·intro s1 s2 l3 s4 s5 l6 r1 h
  rw[F141]at h
  refine Trip.of tab_ok tab_one fol Tryz.func141 rfl (by kernel_rfl) rfl rfl rfl (fun M hM hI=>?_)
  try cbv
  refine seq_go ?_
  try cbv
  refine seq_go ?_
  try cbv
  refine splitS (fun e=>?_) (fun e=>?_)
  rotate_left
  ·replace h:=ite_f (bytes_ne.1 e) h
   clear e
   try cbv
   obtain rfl:=Option.some.inj h
   refine fin_go ?_
   try cbv
   exact⟨[],by trivial⟩
  replace h:=ite_t (bytes_eq.1 e) h
  clear e
  try cbv
  refine splitS (fun e=>?_) (fun e=>?_)
  ·replace h:=ite_t (bytes_eq.1 e) h
   clear e
   try cbv
   replace h:=bO1_inv h
   obtain⟨b7,hr,h⟩:=h
   refine call_go rfl rfl ?_
   try cbv
   refine call_pure hM hI ((ih _ (by omega)).2.2.2.2 hr) rfl ?_
   clear hr
   try cbv
   obtain rfl:=Option.some.inj h
   refine fin_go ?_
   try cbv
   exact⟨[],by trivial⟩
  replace h:=ite_f (bytes_ne.1 e) h
  clear e
  try cbv
  obtain rfl:=Option.some.inj h
  refine fin_go ?_
  try cbv
  exact⟨[],by trivial⟩
 ·intro l1 l2 r1 h
  rw[F140]at h
  refine Trip.of tab_ok tab_one fol Tryz.func140 rfl (by kernel_rfl) rfl rfl rfl (fun M hM hI=>?_)
  try cbv
  refine seq_go ?_
  try cbv
  refine seq_go ?_
  try cbv
  refine seq_join (T:=Nat×Bool) (fun t=>⟨[sT 0 3 l1,sT 1 3 l2,(2,.v (.c (.fn 141 []))),sB 6 false,sB 14 t.2],[],192⟩) (fun t=>t.1<=n/\L140_1 t.1 l1 l2 t.2=some r1) ?_ ?_
  ·try cbv
   replace h:=lenF_inv M h
   obtain⟨z3,hz,h⟩:=h
   refine⟨z3,hz,?_⟩
   clear hz
   try cbv
   replace h:=lenF_inv M h
   obtain⟨z4,hz,h⟩:=h
   refine⟨z4,hz,?_⟩
   clear hz
   try cbv
   refine splitI (fun e=>?_) (fun e=>?_)
   ·replace h:=ite_t e h
    clear e
    try cbv
    exact join_next (n,false) [0,1,2,6,14] [] 192 ⟨by omega,h⟩ (by cbv)
   replace h:=ite_f e h
   clear e
   try cbv
   exact join_next (n,true) [0,1,2,6,14] [] 192 ⟨by omega,h⟩ (by cbv)
  clear h
  rintro⟨m1,b5⟩ ⟨hm1,h⟩
  replace hm1:m1<=n:=hm1
  obtain _ | m1:=m1
  ·replace h:L140_1 0 l1 l2 b5=some r1:=h
   rw[L140_1]at h
   cases h
  replace h:L140_1 (m1+1) l1 l2 b5=some r1:=h
  rw[L140_1]at h
  try cbv
  cases b5
  rotate_left
  ·replace h:=itT h
   try cbv
   refine seq_go ?_
   try cbv
   obtain rfl:=Option.some.inj h
   refine fin_go ?_
   try cbv
   exact⟨[],by trivial⟩
  replace h:=itF h
  try cbv
  refine seq_go ?_
  try cbv
  refine seq_go ?_
  try cbv
  replace h:=lenF_inv M h
  obtain⟨z6,hz,h⟩:=h
  refine⟨z6,hz,?_⟩
  clear hz
  try cbv
  refine loop_inv (T:=Nat×Int) [1,2,6,15,16,17] [] 288 (fun t=>⟨[sT 1 3 l2,(2,.v (.c (.fn 141 []))),sB 6 false,sT 15 3 l1,sI 16 z6,sI 17 t.2],[],288⟩)
    (fun t=>t.1<=m1/\L140_2 t.1 l1 l2 z6 t.2=some r1) (fun t=>t.1) (m1,(0:Int)) ⟨Nat.le_refl _,h⟩ (by cbv) ?_
  clear h
  rintro⟨m2,z7⟩ ⟨hm2,h⟩
  replace hm2:m2<=m1:=hm2
  obtain _ | m2:=m2
  ·replace h:L140_2 0 l1 l2 z6 z7=some r1:=h
   rw[L140_2]at h
   cases h
  replace h:L140_2 (m2+1) l1 l2 z6 z7=some r1:=h
  rw[L140_2]at h
  try cbv
  refine seq_join (T:=Nat×Bool) (fun t=>⟨[sT 1 3 l2,(2,.v (.c (.fn 141 []))),sB 6 false,sT 15 3 l1,sI 16 z6,sI 17 z7,sB 18 t.2],[],320⟩) (fun t=>t.1<=m2/\L140_3 t.1 l1 l2 z6 z7 t.2=some r1) ?_ ?_
  ·try cbv
   refine splitL (fun e=>?_) (fun e=>?_)
   ·replace h:=ite_t e h
    clear e
    try cbv
    exact join_next (m2,true) [1,2,6,15,16,17,18] [] 320 ⟨by omega,h⟩ (by cbv)
   replace h:=ite_f (Int.not_lt.2 e) h
   clear e
   try cbv
   exact join_next (m2,false) [1,2,6,15,16,17,18] [] 320 ⟨by omega,h⟩ (by cbv)
  clear h
  rintro⟨m3,b8⟩ ⟨hm3,h⟩
  replace hm3:m3<=m2:=hm3
  obtain _ | m3:=m3
  ·replace h:L140_3 0 l1 l2 z6 z7 b8=some r1:=h
   rw[L140_3]at h
   cases h
  replace h:L140_3 (m3+1) l1 l2 z6 z7 b8=some r1:=h
  rw[L140_3]at h
  try cbv
  refine seq_go ?_
  try cbv
  cases b8
  ·replace h:=itF h
   try cbv
   refine seq_go ?_
   try cbv
   obtain rfl:=Option.some.inj h
   refine fin_go ?_
   try cbv
   exact⟨[],by trivial⟩
  replace h:=itT h
  try cbv
  refine seq_go ?_
  try cbv
  refine seq_go ?_
  try cbv
  replace h:=getF_inv h
  obtain⟨x9,⟨hx0,hx⟩,h⟩:=h
  refine⟨x9,hx0,hx,?_⟩
  clear hx0 hx
  replace h:=ds_t95_inv h
  obtain⟨s10,s11,l12,rfl,h⟩:=h
  try cbv
  refine seq_go ?_
  try cbv
  replace h:=getF_inv h
  obtain⟨x13,⟨hx0,hx⟩,h⟩:=h
  refine⟨x13,hx0,hx,?_⟩
  clear hx0 hx
  replace h:=ds_t95_inv h
  obtain⟨s14,s15,l16,rfl,h⟩:=h
  try cbv
  refine seq_go ?_
  try cbv
  replace h:=bO1_inv h
  obtain⟨b17,hr,h⟩:=h
  refine call_go rfl rfl ?_
  try cbv
  refine call_pure hM hI ((ih _ (by omega)).1 hr) rfl ?_
  clear hr
  try cbv
  replace h:=letB_inv h
  obtain⟨b18,hz,h⟩:=h
  refine⟨b18,not_eq' hz,?_⟩
  clear hz
  try cbv
  cases b18
  ·replace h:=itF h
   try cbv
   replace h:=letF_inv h
   obtain⟨z19,hz,h⟩:=h
   refine⟨z19,hz,?_⟩
   clear hz
   try cbv
   exact loop_next (m3,z19) [1,2,6,15,16,17] [] 288 ⟨by omega,h⟩ (Nat.lt_succ_of_le (by omega)) (by cbv)
  replace h:=itT h
  try cbv
  refine seq_go ?_
  try cbv
  obtain rfl:=Option.some.inj h
  refine fin_go ?_
  try cbv
  exact⟨[],by trivial⟩
 ·intro z1 s2 s3 l4 z5 s6 l7 z8 s9 l10 l11 l12 l13 l14 z15 z16 s17 s18 l19 z20 s21 l22 z23 s24 l25 l26 l27 l28 l29 z30 r1 h
  rw[F120]at h
  refine Trip.of tab_ok tab_one fol Tryz.func120 rfl (by kernel_rfl) rfl rfl rfl (fun M hM hI=>?_)
  try cbv
  refine seq_go ?_
  try cbv
  refine seq_go ?_
  try cbv
  refine splitI (fun e=>?_) (fun e=>?_)
  rotate_left
  ·replace h:=ite_f e h
   clear e
   try cbv
   obtain rfl:=Option.some.inj h
   refine fin_go ?_
   try cbv
   exact⟨[],by trivial⟩
  replace h:=ite_t e h
  clear e
  try cbv
  refine splitS (fun e=>?_) (fun e=>?_)
  rotate_left
  ·replace h:=ite_f (bytes_ne.1 e) h
   clear e
   try cbv
   obtain rfl:=Option.some.inj h
   refine fin_go ?_
   try cbv
   exact⟨[],by trivial⟩
  replace h:=ite_t (bytes_eq.1 e) h
  clear e
  try cbv
  refine splitS (fun e=>?_) (fun e=>?_)
  rotate_left
  ·replace h:=ite_f (bytes_ne.1 e) h
   clear e
   try cbv
   obtain rfl:=Option.some.inj h
   refine fin_go ?_
   try cbv
   exact⟨[],by trivial⟩
  replace h:=ite_t (bytes_eq.1 e) h
  clear e
  try cbv
  replace h:=bO1_inv h
  obtain⟨b31,hr,h⟩:=h
  refine call_go rfl rfl ?_
  try cbv
  refine call_pure hM hI (T139 _ hr) rfl ?_
  clear hr
  try cbv
  cases b31
  ·replace h:=itF h
   try cbv
   obtain rfl:=Option.some.inj h
   refine fin_go ?_
   try cbv
   exact⟨[],by trivial⟩
  replace h:=itT h
  try cbv
  replace h:=bO1_inv h
  obtain⟨b32,hr,h⟩:=h
  refine call_go rfl rfl ?_
  try cbv
  refine call_pure hM hI (T61 _ hr) rfl ?_
  clear hr
  try cbv
  cases b32
  ·replace h:=itF h
   try cbv
   obtain rfl:=Option.some.inj h
   refine fin_go ?_
   try cbv
   exact⟨[],by trivial⟩
  replace h:=itT h
  try cbv
  refine splitI (fun e=>?_) (fun e=>?_)
  rotate_left
  ·replace h:=ite_f e h
   clear e
   try cbv
   obtain rfl:=Option.some.inj h
   refine fin_go ?_
   try cbv
   exact⟨[],by trivial⟩
  replace h:=ite_t e h
  clear e
  try cbv
  replace h:=bO1_inv h
  obtain⟨b33,hr,h⟩:=h
  refine call_go rfl rfl ?_
  try cbv
  refine call_pure hM hI (T117 _ hr) rfl ?_
  clear hr
  try cbv
  cases b33
  ·replace h:=itF h
   try cbv
   obtain rfl:=Option.some.inj h
   refine fin_go ?_
   try cbv
   exact⟨[],by trivial⟩
  replace h:=itT h
  try cbv
  replace h:=bO1_inv h
  obtain⟨b34,hr,h⟩:=h
  refine call_go rfl rfl ?_
  try cbv
  refine call_pure hM hI (T118 _ hr) rfl ?_
  clear hr
  try cbv
  cases b34
  ·replace h:=itF h
   try cbv
   obtain rfl:=Option.some.inj h
   refine fin_go ?_
   try cbv
   exact⟨[],by trivial⟩
  replace h:=itT h
  try cbv
  replace h:=bO1_inv h
  obtain⟨b35,hr,h⟩:=h
  refine call_go rfl rfl ?_
  try cbv
  refine call_pure hM hI ((ih _ (by omega)).2.2.2.2 hr) rfl ?_
  clear hr
  try cbv
  cases b35
  ·replace h:=itF h
   try cbv
   obtain rfl:=Option.some.inj h
   refine fin_go ?_
   try cbv
   exact⟨[],by trivial⟩
  replace h:=itT h
  try cbv
  replace h:=bO1_inv h
  obtain⟨b36,hr,h⟩:=h
  refine call_go rfl rfl ?_
  try cbv
  refine call_pure hM hI ((ih _ (by omega)).2.2.2.2 hr) rfl ?_
  clear hr
  try cbv
  cases b36
  ·replace h:=itF h
   try cbv
   obtain rfl:=Option.some.inj h
   refine fin_go ?_
   try cbv
   exact⟨[],by trivial⟩
  replace h:=itT h
  try cbv
  replace h:=bO1_inv h
  obtain⟨b37,hr,h⟩:=h
  refine call_go rfl rfl ?_
  try cbv
  refine call_pure hM hI ((ih _ (by omega)).2.1 hr) rfl ?_
  clear hr
  try cbv
  obtain rfl:=Option.some.inj h
  refine fin_go ?_
  try cbv
  exact⟨[],by trivial⟩
 ·intro l1 l2 r1 h
  rw[F119]at h
  refine Trip.of tab_ok tab_one fol Tryz.func119 rfl (by kernel_rfl) rfl rfl rfl (fun M hM hI=>?_)
  try cbv
  refine seq_go ?_
  try cbv
  refine seq_go ?_
  try cbv
  refine seq_join (T:=Nat×Bool) (fun t=>⟨[sT 0 15 l1,sT 1 15 l2,(2,.v (.c (.fn 120 []))),sB 6 false,sB 14 t.2],[],192⟩) (fun t=>t.1<=n/\L119_1 t.1 l1 l2 t.2=some r1) ?_ ?_
  ·try cbv
   replace h:=lenF_inv M h
   obtain⟨z3,hz,h⟩:=h
   refine⟨z3,hz,?_⟩
   clear hz
   try cbv
   replace h:=lenF_inv M h
   obtain⟨z4,hz,h⟩:=h
   refine⟨z4,hz,?_⟩
   clear hz
   try cbv
   refine splitI (fun e=>?_) (fun e=>?_)
   ·replace h:=ite_t e h
    clear e
    try cbv
    exact join_next (n,false) [0,1,2,6,14] [] 192 ⟨by omega,h⟩ (by cbv)
   replace h:=ite_f e h
   clear e
   try cbv
   exact join_next (n,true) [0,1,2,6,14] [] 192 ⟨by omega,h⟩ (by cbv)
  clear h
  rintro⟨m1,b5⟩ ⟨hm1,h⟩
  replace hm1:m1<=n:=hm1
  obtain _ | m1:=m1
  ·replace h:L119_1 0 l1 l2 b5=some r1:=h
   rw[L119_1]at h
   cases h
  replace h:L119_1 (m1+1) l1 l2 b5=some r1:=h
  rw[L119_1]at h
  try cbv
  cases b5
  rotate_left
  ·replace h:=itT h
   try cbv
   refine seq_go ?_
   try cbv
   obtain rfl:=Option.some.inj h
   refine fin_go ?_
   try cbv
   exact⟨[],by trivial⟩
  replace h:=itF h
  try cbv
  refine seq_go ?_
  try cbv
  refine seq_go ?_
  try cbv
  replace h:=lenF_inv M h
  obtain⟨z6,hz,h⟩:=h
  refine⟨z6,hz,?_⟩
  clear hz
  try cbv
  refine loop_inv (T:=Nat×Int) [1,2,6,15,16,17] [] 288 (fun t=>⟨[sT 1 15 l2,(2,.v (.c (.fn 120 []))),sB 6 false,sT 15 15 l1,sI 16 z6,sI 17 t.2],[],288⟩)
    (fun t=>t.1<=m1/\L119_2 t.1 l1 l2 z6 t.2=some r1) (fun t=>t.1) (m1,(0:Int)) ⟨Nat.le_refl _,h⟩ (by cbv) ?_
  clear h
  rintro⟨m2,z7⟩ ⟨hm2,h⟩
  replace hm2:m2<=m1:=hm2
  obtain _ | m2:=m2
  ·replace h:L119_2 0 l1 l2 z6 z7=some r1:=h
   rw[L119_2]at h
   cases h
  replace h:L119_2 (m2+1) l1 l2 z6 z7=some r1:=h
  rw[L119_2]at h
  try cbv
  refine seq_join (T:=Nat×Bool) (fun t=>⟨[sT 1 15 l2,(2,.v (.c (.fn 120 []))),sB 6 false,sT 15 15 l1,sI 16 z6,sI 17 z7,sB 18 t.2],[],320⟩) (fun t=>t.1<=m2/\L119_3 t.1 l1 l2 z6 z7 t.2=some r1) ?_ ?_
  ·try cbv
   refine splitL (fun e=>?_) (fun e=>?_)
   ·replace h:=ite_t e h
    clear e
    try cbv
    exact join_next (m2,true) [1,2,6,15,16,17,18] [] 320 ⟨by omega,h⟩ (by cbv)
   replace h:=ite_f (Int.not_lt.2 e) h
   clear e
   try cbv
   exact join_next (m2,false) [1,2,6,15,16,17,18] [] 320 ⟨by omega,h⟩ (by cbv)
  clear h
  rintro⟨m3,b8⟩ ⟨hm3,h⟩
  replace hm3:m3<=m2:=hm3
  obtain _ | m3:=m3
  ·replace h:L119_3 0 l1 l2 z6 z7 b8=some r1:=h
   rw[L119_3]at h
   cases h
  replace h:L119_3 (m3+1) l1 l2 z6 z7 b8=some r1:=h
  rw[L119_3]at h
  try cbv
  refine seq_go ?_
  try cbv
  cases b8
  ·replace h:=itF h
   try cbv
   refine seq_go ?_
   try cbv
   obtain rfl:=Option.some.inj h
   refine fin_go ?_
   try cbv
   exact⟨[],by trivial⟩
  replace h:=itT h
  try cbv
  refine seq_go ?_
  try cbv
  refine seq_go ?_
  try cbv
  replace h:=getF_inv h
  obtain⟨x9,⟨hx0,hx⟩,h⟩:=h
  refine⟨x9,hx0,hx,?_⟩
  clear hx0 hx
  replace h:=ds_t50_inv h
  obtain⟨z10,s11,s12,l13,z14,s15,l16,z17,s18,l19,l20,l21,l22,l23,z24,rfl,h⟩:=h
  try cbv
  refine seq_go ?_
  try cbv
  replace h:=getF_inv h
  obtain⟨x25,⟨hx0,hx⟩,h⟩:=h
  refine⟨x25,hx0,hx,?_⟩
  clear hx0 hx
  replace h:=ds_t50_inv h
  obtain⟨z26,s27,s28,l29,z30,s31,l32,z33,s34,l35,l36,l37,l38,l39,z40,rfl,h⟩:=h
  try cbv
  refine seq_go ?_
  try cbv
  replace h:=bO1_inv h
  obtain⟨b41,hr,h⟩:=h
  refine call_go rfl rfl ?_
  try cbv
  refine call_pure hM hI ((ih _ (by omega)).2.2.1 hr) rfl ?_
  clear hr
  try cbv
  replace h:=letB_inv h
  obtain⟨b42,hz,h⟩:=h
  refine⟨b42,not_eq' hz,?_⟩
  clear hz
  try cbv
  cases b42
  ·replace h:=itF h
   try cbv
   replace h:=letF_inv h
   obtain⟨z43,hz,h⟩:=h
   refine⟨z43,hz,?_⟩
   clear hz
   try cbv
   exact loop_next (m3,z43) [1,2,6,15,16,17] [] 288 ⟨by omega,h⟩ (Nat.lt_succ_of_le (by omega)) (by cbv)
  replace h:=itT h
  try cbv
  refine seq_go ?_
  try cbv
  obtain rfl:=Option.some.inj h
  refine fin_go ?_
  try cbv
  exact⟨[],by trivial⟩
 intro l1 l2 r1 h
 rw[F63]at h
 refine Trip.of tab_ok tab_one fol Tryz.func63 rfl (by kernel_rfl) rfl rfl rfl (fun M hM hI=>?_)
 try cbv
 refine seq_go ?_
 try cbv
 refine seq_go ?_
 try cbv
 replace h:=bO1_inv h
 obtain⟨b3,hr,h⟩:=h
 refine call_go rfl rfl ?_
 try cbv
 refine call_pure hM hI ((ih _ (by omega)).2.2.2.1 hr) rfl ?_
 clear hr
 try cbv
 obtain rfl:=Option.some.inj h
 refine fin_go ?_
 try cbv
 exact⟨[],by trivial⟩
theorem T63 (n:Nat):∀⦃l1 l2 r1⦄,F63 n l1 l2=some r1->
  Trip Tryz.prog inv 63 [.d (.list true 15 l1),.d (.list true 15 l2)] [] (.v (.d (.bool r1))) [] []:=(G141 n).2.2.2.2
def F65 (n:Nat) (s1:BA) (z2:Int) (s3:BA) (l4:LD) (s5:BA) (z6:Int) (s7:BA) (l8:LD):Option (Bool):=
 (if s1=s5 then bO1 (F61 n z2 s3 l4 z6 s7 l8) fun b9=>some b9 else some false)
theorem T65 (n:Nat):∀⦃s1 z2 s3 l4 s5 z6 s7 l8 r1⦄,F65 n s1 z2 s3 l4 s5 z6 s7 l8=some r1->
    Trip Tryz.prog inv 65 [.d (.agg [.str s1,.int .u8 z2,.str s3,.list true 3 l4]),.d (.agg [.str s5,.int .u8 z6,.str s7,.list true 3 l8])] [] (.v (.d (.bool r1))) [] []:=by
 intro s1 z2 s3 l4 s5 z6 s7 l8 r1 h
 unfold F65 at h
 refine Trip.of tab_ok tab_one fol Tryz.func65 rfl (by kernel_rfl) rfl rfl rfl (fun M hM hI=>?_)
 try cbv
 refine seq_go ?_
 try cbv
 refine seq_go ?_
 try cbv
 refine splitS (fun e=>?_) (fun e=>?_)
 ·replace h:=ite_t (bytes_eq.1 e) h
  clear e
  try cbv
  replace h:=bO1_inv h
  obtain⟨b9,hr,h⟩:=h
  refine call_go rfl rfl ?_
  try cbv
  refine call_pure hM hI (T61 _ hr) rfl ?_
  clear hr
  try cbv
  obtain rfl:=Option.some.inj h
  refine fin_go ?_
  try cbv
  exact⟨[],by trivial⟩
 replace h:=ite_f (bytes_ne.1 e) h
 clear e
 try cbv
 obtain rfl:=Option.some.inj h
 refine fin_go ?_
 try cbv
 exact⟨[],by trivial⟩
mutual
def L64_2:Nat->LD->LD->Int->Int->Option (Bool)
 | 0,_,_,_,_=>none
 | n+1,l1,l2,z6,z7=>
  (if z7<z6 then L64_3 n l1 l2 z6 z7 true else L64_3 n l1 l2 z6 z7 false)
def L64_3:Nat->LD->LD->Int->Int->Bool->Option (Bool)
 | 0,_,_,_,_,_=>none
 | n+1,l1,l2,z6,z7,b8=>
  (if b8=true then getF l1 z7 fun x9=>ds_t74 x9 fun s10 z11 s12 l13=>getF l2 z7 fun x14=>ds_t74 x14 fun s15 z16 s17 l18=>bO1 (F65 n s10 z11 s12 l13 s15 z16 s17 l18) fun b19=>letB (!b19) fun b20=>(if b20=true then some false else letF (IntKind.wrap .i64 (z7+1)) fun z21=>L64_2 n l1 l2 z6 z21)else some true)
end
def L64_1:Nat->LD->LD->Bool->Option (Bool)
 | 0,_,_,_=>none
 | n+1,l1,l2,b5=>
  (if b5=true then some false else lenF l1 fun z6=>L64_2 n l1 l2 z6 (0:Int))
def F64 (n:Nat) (l1:LD) (l2:LD):Option (Bool):=
 lenF l1 fun z3=>lenF l2 fun z4=>(if z3=z4 then L64_1 n l1 l2 false else L64_1 n l1 l2 true)
theorem T64 (n:Nat):∀⦃l1 l2 r1⦄,F64 n l1 l2=some r1->
    Trip Tryz.prog inv 64 [.d (.list true 4 l1),.d (.list true 4 l2),.c (.fn 65 [])] [] (.v (.d (.bool r1))) [] []:=by
 intro l1 l2 r1 h
 unfold F64 at h
 refine Trip.of tab_ok tab_one fol Tryz.func64 rfl (by kernel_rfl) rfl rfl rfl (fun M hM hI=>?_)
 try cbv
 refine seq_go ?_
 try cbv
 refine seq_go ?_
 try cbv
 refine seq_join (T:=Nat×Bool) (fun t=>⟨[sT 0 4 l1,sT 1 4 l2,(2,.v (.c (.fn 65 []))),sB 6 false,sB 14 t.2],[],192⟩) (fun t=>t.1<=n/\L64_1 t.1 l1 l2 t.2=some r1) ?_ ?_
 ·try cbv
  replace h:=lenF_inv M h
  obtain⟨z3,hz,h⟩:=h
  refine⟨z3,hz,?_⟩
  clear hz
  try cbv
  replace h:=lenF_inv M h
  obtain⟨z4,hz,h⟩:=h
  refine⟨z4,hz,?_⟩
  clear hz
  try cbv
  refine splitI (fun e=>?_) (fun e=>?_)
  ·replace h:=ite_t e h
   clear e
   try cbv
   exact join_next (n,false) [0,1,2,6,14] [] 192 ⟨by omega,h⟩ (by cbv)
  replace h:=ite_f e h
  clear e
  try cbv
  exact join_next (n,true) [0,1,2,6,14] [] 192 ⟨by omega,h⟩ (by cbv)
 clear h
 rintro⟨m1,b5⟩ ⟨hm1,h⟩
 replace hm1:m1<=n:=hm1
 obtain _ | m1:=m1
 ·replace h:L64_1 0 l1 l2 b5=some r1:=h
  rw[L64_1]at h
  cases h
 replace h:L64_1 (m1+1) l1 l2 b5=some r1:=h
 rw[L64_1]at h
 try cbv
 cases b5
 rotate_left
 ·replace h:=itT h
  try cbv
  refine seq_go ?_
  try cbv
  obtain rfl:=Option.some.inj h
  refine fin_go ?_
  try cbv
  exact⟨[],by trivial⟩
 replace h:=itF h
 try cbv
 refine seq_go ?_
 try cbv
 refine seq_go ?_
 try cbv
 replace h:=lenF_inv M h
 obtain⟨z6,hz,h⟩:=h
 refine⟨z6,hz,?_⟩
 clear hz
 try cbv
 refine loop_inv (T:=Nat×Int) [1,2,6,15,16,17] [] 288 (fun t=>⟨[sT 1 4 l2,(2,.v (.c (.fn 65 []))),sB 6 false,sT 15 4 l1,sI 16 z6,sI 17 t.2],[],288⟩)
   (fun t=>t.1<=m1/\L64_2 t.1 l1 l2 z6 t.2=some r1) (fun t=>t.1) (m1,(0:Int)) ⟨Nat.le_refl _,h⟩ (by cbv) ?_
 clear h
 rintro⟨m2,z7⟩ ⟨hm2,h⟩
 replace hm2:m2<=m1:=hm2
 obtain _ | m2:=m2
 ·replace h:L64_2 0 l1 l2 z6 z7=some r1:=h
  rw[L64_2]at h
  cases h
 replace h:L64_2 (m2+1) l1 l2 z6 z7=some r1:=h
 rw[L64_2]at h
 try cbv
 refine seq_join (T:=Nat×Bool) (fun t=>⟨[sT 1 4 l2,(2,.v (.c (.fn 65 []))),sB 6 false,sT 15 4 l1,sI 16 z6,sI 17 z7,sB 18 t.2],[],320⟩) (fun t=>t.1<=m2/\L64_3 t.1 l1 l2 z6 z7 t.2=some r1) ?_ ?_
 ·try cbv
  refine splitL (fun e=>?_) (fun e=>?_)
  ·replace h:=ite_t e h
   clear e
   try cbv
   exact join_next (m2,true) [1,2,6,15,16,17,18] [] 320 ⟨by omega,h⟩ (by cbv)
  replace h:=ite_f (Int.not_lt.2 e) h
  clear e
  try cbv
  exact join_next (m2,false) [1,2,6,15,16,17,18] [] 320 ⟨by omega,h⟩ (by cbv)
 clear h
 rintro⟨m3,b8⟩ ⟨hm3,h⟩
 replace hm3:m3<=m2:=hm3
 obtain _ | m3:=m3
 ·replace h:L64_3 0 l1 l2 z6 z7 b8=some r1:=h
  rw[L64_3]at h
  cases h
 replace h:L64_3 (m3+1) l1 l2 z6 z7 b8=some r1:=h
 rw[L64_3]at h
 try cbv
 refine seq_go ?_
 try cbv
 cases b8
 ·replace h:=itF h
  try cbv
  refine seq_go ?_
  try cbv
  obtain rfl:=Option.some.inj h
  refine fin_go ?_
  try cbv
  exact⟨[],by trivial⟩
 replace h:=itT h
 try cbv
 refine seq_go ?_
 try cbv
 refine seq_go ?_
 try cbv
 replace h:=getF_inv h
 obtain⟨x9,⟨hx0,hx⟩,h⟩:=h
 refine⟨x9,hx0,hx,?_⟩
 clear hx0 hx
 replace h:=ds_t74_inv h
 obtain⟨s10,z11,s12,l13,rfl,h⟩:=h
 try cbv
 refine seq_go ?_
 try cbv
 replace h:=getF_inv h
 obtain⟨x14,⟨hx0,hx⟩,h⟩:=h
 refine⟨x14,hx0,hx,?_⟩
 clear hx0 hx
 replace h:=ds_t74_inv h
 obtain⟨s15,z16,s17,l18,rfl,h⟩:=h
 try cbv
 refine seq_go ?_
 try cbv
 replace h:=bO1_inv h
 obtain⟨b19,hr,h⟩:=h
 refine call_go rfl rfl ?_
 try cbv
 refine call_pure hM hI (T65 _ hr) rfl ?_
 clear hr
 try cbv
 replace h:=letB_inv h
 obtain⟨b20,hz,h⟩:=h
 refine⟨b20,not_eq' hz,?_⟩
 clear hz
 try cbv
 cases b20
 ·replace h:=itF h
  try cbv
  replace h:=letF_inv h
  obtain⟨z21,hz,h⟩:=h
  refine⟨z21,hz,?_⟩
  clear hz
  try cbv
  exact loop_next (m3,z21) [1,2,6,15,16,17] [] 288 ⟨by omega,h⟩ (Nat.lt_succ_of_le (by omega)) (by cbv)
 replace h:=itT h
 try cbv
 refine seq_go ?_
 try cbv
 obtain rfl:=Option.some.inj h
 refine fin_go ?_
 try cbv
 exact⟨[],by trivial⟩
def F60 (n:Nat) (z1:Int) (s2:BA) (l3:LD) (z4:Int) (s5:BA) (l6:LD) (l7:LD) (z8:Int) (z9:Int) (s10:BA) (s11:BA) (s12:BA) (l13:LD) (l14:LD) (z15:Int) (z16:Int) (z17:Int) (s18:BA) (l19:LD) (z20:Int) (s21:BA) (l22:LD) (l23:LD) (z24:Int) (z25:Int) (s26:BA) (s27:BA) (s28:BA) (l29:LD) (l30:LD) (z31:Int) (z32:Int):Option (Bool):=
 (if z1=z17 then (if s2=s18 then bO1 (F61 n z4 s5 l6 z20 s21 l22) fun b33=>(if b33=true then bO1 (F62 n z8 z9 s10 s11 s12 l13 l14 z15 z24 z25 s26 s27 s28 l29 l30 z31) fun b34=>(if b34=true then bO1 (F63 n l7 l23) fun b35=>(if b35=true then bO1 (F64 n l3 l19) fun b36=>some b36 else some false)else some false)else some false)else some false)else some false)
theorem T60 (n:Nat):∀⦃z1 s2 l3 z4 s5 l6 l7 z8 z9 s10 s11 s12 l13 l14 z15 z16 z17 s18 l19 z20 s21 l22 l23 z24 z25 s26 s27 s28 l29 l30 z31 z32 r1⦄,F60 n z1 s2 l3 z4 s5 l6 l7 z8 z9 s10 s11 s12 l13 l14 z15 z16 z17 s18 l19 z20 s21 l22 l23 z24 z25 s26 s27 s28 l29 l30 z31 z32=some r1->
    Trip Tryz.prog inv 60 [.d (.agg [.int .u8 z1,.str s2,.list true 4 l3,.int .u8 z4,.str s5,.list true 3 l6,.list true 15 l7,.int .u8 z8,.int .i64 z9,.str s10,.str s11,.str s12,.list false 1 l13,.list true 8 l14,.int .i64 z15,.int .i64 z16]),.d (.agg [.int .u8 z17,.str s18,.list true 4 l19,.int .u8 z20,.str s21,.list true 3 l22,.list true 15 l23,.int .u8 z24,.int .i64 z25,.str s26,.str s27,.str s28,.list false 1 l29,.list true 8 l30,.int .i64 z31,.int .i64 z32])] [] (.v (.d (.bool r1))) [] []:=by
 intro z1 s2 l3 z4 s5 l6 l7 z8 z9 s10 s11 s12 l13 l14 z15 z16 z17 s18 l19 z20 s21 l22 l23 z24 z25 s26 s27 s28 l29 l30 z31 z32 r1 h
 unfold F60 at h
 refine Trip.of tab_ok tab_one fol Tryz.func60 rfl (by kernel_rfl) rfl rfl rfl (fun M hM hI=>?_)
 try cbv
 refine seq_go ?_
 try cbv
 refine seq_go ?_
 try cbv
 refine splitI (fun e=>?_) (fun e=>?_)
 rotate_left
 ·replace h:=ite_f e h
  clear e
  try cbv
  obtain rfl:=Option.some.inj h
  refine fin_go ?_
  try cbv
  exact⟨[],by trivial⟩
 replace h:=ite_t e h
 clear e
 try cbv
 refine splitS (fun e=>?_) (fun e=>?_)
 rotate_left
 ·replace h:=ite_f (bytes_ne.1 e) h
  clear e
  try cbv
  obtain rfl:=Option.some.inj h
  refine fin_go ?_
  try cbv
  exact⟨[],by trivial⟩
 replace h:=ite_t (bytes_eq.1 e) h
 clear e
 try cbv
 replace h:=bO1_inv h
 obtain⟨b33,hr,h⟩:=h
 refine call_go rfl rfl ?_
 try cbv
 refine call_pure hM hI (T61 _ hr) rfl ?_
 clear hr
 try cbv
 cases b33
 ·replace h:=itF h
  try cbv
  obtain rfl:=Option.some.inj h
  refine fin_go ?_
  try cbv
  exact⟨[],by trivial⟩
 replace h:=itT h
 try cbv
 replace h:=bO1_inv h
 obtain⟨b34,hr,h⟩:=h
 refine call_go rfl rfl ?_
 try cbv
 refine call_pure hM hI (T62 _ hr) rfl ?_
 clear hr
 try cbv
 cases b34
 ·replace h:=itF h
  try cbv
  obtain rfl:=Option.some.inj h
  refine fin_go ?_
  try cbv
  exact⟨[],by trivial⟩
 replace h:=itT h
 try cbv
 replace h:=bO1_inv h
 obtain⟨b35,hr,h⟩:=h
 refine call_go rfl rfl ?_
 try cbv
 refine call_pure hM hI (T63 _ hr) rfl ?_
 clear hr
 try cbv
 cases b35
 ·replace h:=itF h
  try cbv
  obtain rfl:=Option.some.inj h
  refine fin_go ?_
  try cbv
  exact⟨[],by trivial⟩
 replace h:=itT h
 try cbv
 replace h:=bO1_inv h
 obtain⟨b36,hr,h⟩:=h
 refine call_go rfl rfl ?_
 try cbv
 refine call_pure hM hI (T64 _ hr) rfl ?_
 clear hr
 try cbv
 obtain rfl:=Option.some.inj h
 refine fin_go ?_
 try cbv
 exact⟨[],by trivial⟩
mutual
def L59_2:Nat->LD->LD->Int->Int->Option (Bool)
 | 0,_,_,_,_=>none
 | n+1,l1,l2,z6,z7=>
  (if z7<z6 then L59_3 n l1 l2 z6 z7 true else L59_3 n l1 l2 z6 z7 false)
def L59_3:Nat->LD->LD->Int->Int->Bool->Option (Bool)
 | 0,_,_,_,_,_=>none
 | n+1,l1,l2,z6,z7,b8=>
  (if b8=true then getF l1 z7 fun x9=>ds_t45 x9 fun z10 s11 l12 z13 s14 l15 l16 z17 z18 s19 s20 s21 l22 l23 z24 z25=>getF l2 z7 fun x26=>ds_t45 x26 fun z27 s28 l29 z30 s31 l32 l33 z34 z35 s36 s37 s38 l39 l40 z41 z42=>bO1 (F60 n z10 s11 l12 z13 s14 l15 l16 z17 z18 s19 s20 s21 l22 l23 z24 z25 z27 s28 l29 z30 s31 l32 l33 z34 z35 s36 s37 s38 l39 l40 z41 z42) fun b43=>letB (!b43) fun b44=>(if b44=true then some false else letF (IntKind.wrap .i64 (z7+1)) fun z45=>L59_2 n l1 l2 z6 z45)else some true)
end
def L59_1:Nat->LD->LD->Bool->Option (Bool)
 | 0,_,_,_=>none
 | n+1,l1,l2,b5=>
  (if b5=true then some false else lenF l1 fun z6=>L59_2 n l1 l2 z6 (0:Int))
def F59 (n:Nat) (l1:LD) (l2:LD):Option (Bool):=
 lenF l1 fun z3=>lenF l2 fun z4=>(if z3=z4 then L59_1 n l1 l2 false else L59_1 n l1 l2 true)
theorem T59 (n:Nat):∀⦃l1 l2 r1⦄,F59 n l1 l2=some r1->
    Trip Tryz.prog inv 59 [.d (.list true 16 l1),.d (.list true 16 l2),.c (.fn 60 [])] [] (.v (.d (.bool r1))) [] []:=by
 intro l1 l2 r1 h
 unfold F59 at h
 refine Trip.of tab_ok tab_one fol Tryz.func59 rfl (by kernel_rfl) rfl rfl rfl (fun M hM hI=>?_)
 try cbv
 refine seq_go ?_
 try cbv
 refine seq_go ?_
 try cbv
 refine seq_join (T:=Nat×Bool) (fun t=>⟨[sT 0 16 l1,sT 1 16 l2,(2,.v (.c (.fn 60 []))),sB 6 false,sB 14 t.2],[],192⟩) (fun t=>t.1<=n/\L59_1 t.1 l1 l2 t.2=some r1) ?_ ?_
 ·try cbv
  replace h:=lenF_inv M h
  obtain⟨z3,hz,h⟩:=h
  refine⟨z3,hz,?_⟩
  clear hz
  try cbv
  replace h:=lenF_inv M h
  obtain⟨z4,hz,h⟩:=h
  refine⟨z4,hz,?_⟩
  clear hz
  try cbv
  refine splitI (fun e=>?_) (fun e=>?_)
  ·replace h:=ite_t e h
   clear e
   try cbv
   exact join_next (n,false) [0,1,2,6,14] [] 192 ⟨by omega,h⟩ (by cbv)
  replace h:=ite_f e h
  clear e
  try cbv
  exact join_next (n,true) [0,1,2,6,14] [] 192 ⟨by omega,h⟩ (by cbv)
 clear h
 rintro⟨m1,b5⟩ ⟨hm1,h⟩
 replace hm1:m1<=n:=hm1
 obtain _ | m1:=m1
 ·replace h:L59_1 0 l1 l2 b5=some r1:=h
  rw[L59_1]at h
  cases h
 replace h:L59_1 (m1+1) l1 l2 b5=some r1:=h
 rw[L59_1]at h
 try cbv
 cases b5
 rotate_left
 ·replace h:=itT h
  try cbv
  refine seq_go ?_
  try cbv
  obtain rfl:=Option.some.inj h
  refine fin_go ?_
  try cbv
  exact⟨[],by trivial⟩
 replace h:=itF h
 try cbv
 refine seq_go ?_
 try cbv
 refine seq_go ?_
 try cbv
 replace h:=lenF_inv M h
 obtain⟨z6,hz,h⟩:=h
 refine⟨z6,hz,?_⟩
 clear hz
 try cbv
 refine loop_inv (T:=Nat×Int) [1,2,6,15,16,17] [] 288 (fun t=>⟨[sT 1 16 l2,(2,.v (.c (.fn 60 []))),sB 6 false,sT 15 16 l1,sI 16 z6,sI 17 t.2],[],288⟩)
   (fun t=>t.1<=m1/\L59_2 t.1 l1 l2 z6 t.2=some r1) (fun t=>t.1) (m1,(0:Int)) ⟨Nat.le_refl _,h⟩ (by cbv) ?_
 clear h
 rintro⟨m2,z7⟩ ⟨hm2,h⟩
 replace hm2:m2<=m1:=hm2
 obtain _ | m2:=m2
 ·replace h:L59_2 0 l1 l2 z6 z7=some r1:=h
  rw[L59_2]at h
  cases h
 replace h:L59_2 (m2+1) l1 l2 z6 z7=some r1:=h
 rw[L59_2]at h
 try cbv
 refine seq_join (T:=Nat×Bool) (fun t=>⟨[sT 1 16 l2,(2,.v (.c (.fn 60 []))),sB 6 false,sT 15 16 l1,sI 16 z6,sI 17 z7,sB 18 t.2],[],320⟩) (fun t=>t.1<=m2/\L59_3 t.1 l1 l2 z6 z7 t.2=some r1) ?_ ?_
 ·try cbv
  refine splitL (fun e=>?_) (fun e=>?_)
  ·replace h:=ite_t e h
   clear e
   try cbv
   exact join_next (m2,true) [1,2,6,15,16,17,18] [] 320 ⟨by omega,h⟩ (by cbv)
  replace h:=ite_f (Int.not_lt.2 e) h
  clear e
  try cbv
  exact join_next (m2,false) [1,2,6,15,16,17,18] [] 320 ⟨by omega,h⟩ (by cbv)
 clear h
 rintro⟨m3,b8⟩ ⟨hm3,h⟩
 replace hm3:m3<=m2:=hm3
 obtain _ | m3:=m3
 ·replace h:L59_3 0 l1 l2 z6 z7 b8=some r1:=h
  rw[L59_3]at h
  cases h
 replace h:L59_3 (m3+1) l1 l2 z6 z7 b8=some r1:=h
 rw[L59_3]at h
 try cbv
 refine seq_go ?_
 try cbv
 cases b8
 ·replace h:=itF h
  try cbv
  refine seq_go ?_
  try cbv
  obtain rfl:=Option.some.inj h
  refine fin_go ?_
  try cbv
  exact⟨[],by trivial⟩
 replace h:=itT h
 try cbv
 refine seq_go ?_
 try cbv
 refine seq_go ?_
 try cbv
 replace h:=getF_inv h
 obtain⟨x9,⟨hx0,hx⟩,h⟩:=h
 refine⟨x9,hx0,hx,?_⟩
 clear hx0 hx
 replace h:=ds_t45_inv h
 obtain⟨z10,s11,l12,z13,s14,l15,l16,z17,z18,s19,s20,s21,l22,l23,z24,z25,rfl,h⟩:=h
 try cbv
 refine seq_go ?_
 try cbv
 replace h:=getF_inv h
 obtain⟨x26,⟨hx0,hx⟩,h⟩:=h
 refine⟨x26,hx0,hx,?_⟩
 clear hx0 hx
 replace h:=ds_t45_inv h
 obtain⟨z27,s28,l29,z30,s31,l32,l33,z34,z35,s36,s37,s38,l39,l40,z41,z42,rfl,h⟩:=h
 try cbv
 refine seq_go ?_
 try cbv
 replace h:=bO1_inv h
 obtain⟨b43,hr,h⟩:=h
 refine call_go rfl rfl ?_
 try cbv
 refine call_pure hM hI (T60 _ hr) rfl ?_
 clear hr
 try cbv
 replace h:=letB_inv h
 obtain⟨b44,hz,h⟩:=h
 refine⟨b44,not_eq' hz,?_⟩
 clear hz
 try cbv
 cases b44
 ·replace h:=itF h
  try cbv
  replace h:=letF_inv h
  obtain⟨z45,hz,h⟩:=h
  refine⟨z45,hz,?_⟩
  clear hz
  try cbv
  exact loop_next (m3,z45) [1,2,6,15,16,17] [] 288 ⟨by omega,h⟩ (Nat.lt_succ_of_le (by omega)) (by cbv)
 replace h:=itT h
 try cbv
 refine seq_go ?_
 try cbv
 obtain rfl:=Option.some.inj h
 refine fin_go ?_
 try cbv
 exact⟨[],by trivial⟩
def F25 (n:Nat) (l1:LD) (l2:LD):Option (Bool):=
 bO1 (F59 n l1 l2) fun b3=>some b3
theorem T25 (n:Nat):∀⦃l1 l2 r1⦄,F25 n l1 l2=some r1->
    Trip Tryz.prog inv 25 [.d (.agg [.list true 16 l1]),.d (.agg [.list true 16 l2])] [] (.v (.d (.bool r1))) [] []:=by
 intro l1 l2 r1 h
 unfold F25 at h
 refine Trip.of tab_ok tab_one fol Tryz.func25 rfl (by kernel_rfl) rfl rfl rfl (fun M hM hI=>?_)
 try cbv
 refine seq_go ?_
 try cbv
 refine seq_go ?_
 try cbv
 replace h:=bO1_inv h
 obtain⟨b3,hr,h⟩:=h
 refine call_go rfl rfl ?_
 try cbv
 refine call_pure hM hI (T59 _ hr) rfl ?_
 clear hr
 try cbv
 obtain rfl:=Option.some.inj h
 refine fin_go ?_
 try cbv
 exact⟨[],by trivial⟩
def L17_1:Nat->LD->LD->LD->Bool->Option (Bool)
 | 0,_,_,_,_=>none
 | n+1,l1,l20,l21,b23=>
  (if b23=true then some false else bO1 (F10 n ([]:LD)) fun b24=>(if b24=true then bO1 (F10 n l1) fun b25=>(if b25=true then bO1 (F12 n l1) fun z26=>(if z26=(3:Int)then bO1 (F14 n l1) fun z27=>(if z27=(2:Int)then bO1 (F12 n ([]:LD)) fun z28=>(if z28=(1:Int)then bO1 (F21 n (1:Int) ByteArray.empty ([]:LD)) fun b29=>(if b29=true then bO1 (F21 n (5:Int) ByteArray.empty ([]:LD)) fun b30=>letB (!b30) fun b31=>(if b31=true then bO1 (F21 n (1:Int) k_T ([]:LD)) fun b32=>letB (!b32) fun b33=>(if b33=true then bO1 (F20 n (1:Int) (-1:Int) ByteArray.empty ByteArray.empty ByteArray.empty ([]:LD) ([]:LD) (0:Int)) fun b34=>letB (!b34) fun b35=>(if b35=true then bO1 (F20 n (5:Int) (0:Int) ByteArray.empty ByteArray.empty k_x ([]:LD) ([]:LD) (0:Int)) fun b36=>letB (!b36) fun b37=>(if b37=true then bO1 (F20 n (18:Int) (0:Int) k_f ByteArray.empty ByteArray.empty ([]:LD) ([.agg [.int .u8 5,.int .i64 0,.str ByteArray.empty,.str ByteArray.empty,.str k_x,.list false 1 [],.list true 8 [],.int .i64 0]]) (0:Int)) fun b38=>(if b38=true then bO1 (F52 n k_x ([.str k_a,.str k__])) fun b39=>(if b39=true then bO1 (F52 n k_X ([]:LD)) fun b40=>letB (!b40) fun b41=>(if b41=true then bO1 (F25 n l1 l20) fun b42=>(if b42=true then getF l21 0 fun x43=>ds_t45 x43 fun z44 s45 l46 z47 s48 l49 l50 z51 z52 s53 s54 s55 l56 l57 z58 z59=>(if z59=(0:Int)then some true else some false)else some false)else some false)else some false)else some false)else some false)else some false)else some false)else some false)else some false)else some false)else some false)else some false)else some false)else some false))
def F17 (n:Nat):Option (Bool):=
 bO1 (F22 n) fun l1=>bO1 (F22 n) fun l2=>needF (0<=(0:Int)/\(0:Int).toNat<l2.length) (getN l2 ((0:Int).toNat) fun x3=>ds_t45 x3 fun z4 s5 l6 z7 s8 l9 l10 z11 z12 s13 s14 s15 l16 l17 z18 z19=>setF l2 ((0:Int).toNat) (.agg [.int .u8 z4,.str s5,.list true 4 l6,.int .u8 z7,.str s8,.list true 3 l9,.list true 15 l10,.int .u8 z11,.int .i64 z12,.str s13,.str s14,.str s15,.list false 1 l16,.list true 8 l17,.int .i64 z18,.int .i64 7]) fun l20=>bO1 (F24 n l20) fun l21=>lenF l21 fun z22=>(if z22=(1:Int)then L17_1 n l1 l20 l21 false else L17_1 n l1 l20 l21 true))
theorem T17 (n:Nat):∀⦃r1⦄,F17 n=some r1->
    Trip Tryz.prog inv 17 [] [] (.v (.d (.bool r1))) [] []:=by
 intro r1 h
 unfold F17 at h
 refine Trip.of tab_ok tab_one fol Tryz.func17 rfl (by kernel_rfl) rfl rfl rfl (fun M hM hI=>?_)
 try cbv
 refine seq_go ?_
 try cbv
 refine seq_go ?_
 try cbv
 replace h:=bO1_inv h
 obtain⟨l1,hr,h⟩:=h
 refine call_go rfl rfl ?_
 try cbv
 refine call_with hM hI [] (T22 _ hr) rfl (by simp) trivial trivial (by simp) ?_
 clear hr
 try cbv
 refine seq_go ?_
 try cbv
 replace h:=bO1_inv h
 obtain⟨l2,hr,h⟩:=h
 refine call_go rfl rfl ?_
 try cbv
 refine call_with hM hI [] (T22 _ hr) rfl (by simp) trivial trivial (by simp) ?_
 clear hr
 try cbv
 refine seq_go ?_
 try cbv
 replace h:=needF_inv h
 obtain⟨hn,h⟩:=h
 refine⟨(M.lock_iff _).2 hn,?_⟩
 clear hn
 try cbv
 refine⟨[],?_⟩
 try cbv
 replace h:=getN_inv h
 obtain⟨x3,hx,h⟩:=h
 replace h:=ds_t45_inv h
 obtain⟨z4,s5,l6,z7,s8,l9,l10,z11,z12,s13,s14,s15,l16,l17,z18,z19,rfl,h⟩:=h
 refine⟨_,hx,?_⟩
 clear hx
 try cbv
 refine seq_go ?_
 try cbv
 refine seq_go ?_
 try cbv
 replace h:=setF_inv h
 obtain⟨l20,hl20,h⟩:=h
 replace h:=bO1_inv h
 obtain⟨l21,hr,h⟩:=h
 refine call_gs [.close (.loc 128),.freeze (.loc 128)] rfl rfl ?_
 try cbv
 refine⟨l20,hl20,?_⟩
 clear hl20
 try cbv
 first | refine⟨by first | rfl | trivial,?_⟩ | skip
 refine callfv_with hM hI [] rfl rfl (T24 _ hr) rfl (by simp) trivial trivial (by simp) ?_
 clear hr
 try cbv
 refine seq_go ?_
 try cbv
 refine seq_join (T:=Nat×Bool) (fun t=>⟨[sB 0 false,sL 1 64,sL 2 160,sL 3 448,sL 4 576,sB 18 t.2],[(.loc 64,.cells [.ow (.loc 32)]),(.loc 32,.tree .row true 16 l1 none),(.loc 160,.cells [.d (.list true 16 l20)]),(.loc 448,.cells [.d (.int .u8 5),.d (.int .i64 0),.d (.str ByteArray.empty),.d (.str ByteArray.empty),.d (.str k_x),.nils false 1,.nils true 8,.d (.int .i64 0)]),(.loc 576,.cells [.d (.list true 16 l21)])],768⟩) (fun t=>t.1<=n/\L17_1 t.1 l1 l20 l21 t.2=some r1) ?_ ?_
 ·try cbv
  replace h:=lenF_inv M h
  obtain⟨z22,hz,h⟩:=h
  refine⟨z22,hz,?_⟩
  clear hz
  try cbv
  refine splitI (fun e=>?_) (fun e=>?_)
  ·replace h:=ite_t e h
   clear e
   try cbv
   exact join_next (n,false) [0,1,2,3,4,18] [.loc 64,.loc 32,.loc 160,.loc 448,.loc 576] 768 ⟨by omega,h⟩ (by cbv)
  replace h:=ite_f e h
  clear e
  try cbv
  exact join_next (n,true) [0,1,2,3,4,18] [.loc 64,.loc 32,.loc 160,.loc 448,.loc 576] 768 ⟨by omega,h⟩ (by cbv)
 clear h
 rintro⟨m1,b23⟩ ⟨hm1,h⟩
 replace hm1:m1<=n:=hm1
 obtain _ | m1:=m1
 ·replace h:L17_1 0 l1 l20 l21 b23=some r1:=h
  rw[L17_1]at h
  cases h
 replace h:L17_1 (m1+1) l1 l20 l21 b23=some r1:=h
 rw[L17_1]at h
 try cbv
 cases b23
 rotate_left
 ·replace h:=itT h
  try cbv
  refine seq_go ?_
  try cbv
  obtain rfl:=Option.some.inj h
  refine fin_go ?_
  try cbv
  exact⟨[],by trivial⟩
 replace h:=itF h
 try cbv
 refine seq_go ?_
 try cbv
 replace h:=bO1_inv h
 obtain⟨b24,hr,h⟩:=h
 refine call_go rfl rfl ?_
 try cbv
 refine call_pure hM hI (T10 _ hr) rfl ?_
 clear hr
 try cbv
 cases b24
 ·replace h:=itF h
  try cbv
  obtain rfl:=Option.some.inj h
  refine fin_go ?_
  try cbv
  exact⟨[],by trivial⟩
 replace h:=itT h
 try cbv
 replace h:=bO1_inv h
 obtain⟨b25,hr,h⟩:=h
 refine call_gs [.freeze (.loc 32)] rfl rfl ?_
 try cbv
 first | refine⟨by first | rfl | trivial,?_⟩ | skip
 refine callfv_with hM hI [] rfl rfl (T10 _ hr) rfl (by simp) trivial trivial (by simp) ?_
 clear hr
 try cbv
 cases b25
 ·replace h:=itF h
  try cbv
  obtain rfl:=Option.some.inj h
  refine fin_go ?_
  try cbv
  exact⟨[],by trivial⟩
 replace h:=itT h
 try cbv
 replace h:=bO1_inv h
 obtain⟨z26,hr,h⟩:=h
 refine call_go rfl rfl ?_
 try cbv
 refine call_pure hM hI (T12 _ hr) rfl ?_
 clear hr
 try cbv
 refine splitI (fun e=>?_) (fun e=>?_)
 rotate_left
 ·replace h:=ite_f e h
  clear e
  try cbv
  obtain rfl:=Option.some.inj h
  refine fin_go ?_
  try cbv
  exact⟨[],by trivial⟩
 replace h:=ite_t e h
 clear e
 try cbv
 replace h:=bO1_inv h
 obtain⟨z27,hr,h⟩:=h
 refine call_go rfl rfl ?_
 try cbv
 refine call_pure hM hI (T14 _ hr) rfl ?_
 clear hr
 try cbv
 refine splitI (fun e=>?_) (fun e=>?_)
 rotate_left
 ·replace h:=ite_f e h
  clear e
  try cbv
  obtain rfl:=Option.some.inj h
  refine fin_go ?_
  try cbv
  exact⟨[],by trivial⟩
 replace h:=ite_t e h
 clear e
 try cbv
 replace h:=bO1_inv h
 obtain⟨z28,hr,h⟩:=h
 refine call_go rfl rfl ?_
 try cbv
 refine call_pure hM hI (T12 _ hr) rfl ?_
 clear hr
 try cbv
 refine splitI (fun e=>?_) (fun e=>?_)
 rotate_left
 ·replace h:=ite_f e h
  clear e
  try cbv
  obtain rfl:=Option.some.inj h
  refine fin_go ?_
  try cbv
  exact⟨[],by trivial⟩
 replace h:=ite_t e h
 clear e
 try cbv
 replace h:=bO1_inv h
 obtain⟨b29,hr,h⟩:=h
 refine call_go rfl rfl ?_
 try cbv
 refine call_pure hM hI (T21 _ hr) rfl ?_
 clear hr
 try cbv
 cases b29
 ·replace h:=itF h
  try cbv
  obtain rfl:=Option.some.inj h
  refine fin_go ?_
  try cbv
  exact⟨[],by trivial⟩
 replace h:=itT h
 try cbv
 replace h:=bO1_inv h
 obtain⟨b30,hr,h⟩:=h
 refine call_go rfl rfl ?_
 try cbv
 refine call_pure hM hI (T21 _ hr) rfl ?_
 clear hr
 try cbv
 replace h:=letB_inv h
 obtain⟨b31,hz,h⟩:=h
 refine⟨b31,not_eq' hz,?_⟩
 clear hz
 try cbv
 cases b31
 ·replace h:=itF h
  try cbv
  obtain rfl:=Option.some.inj h
  refine fin_go ?_
  try cbv
  exact⟨[],by trivial⟩
 replace h:=itT h
 try cbv
 replace h:=bO1_inv h
 obtain⟨b32,hr,h⟩:=h
 refine call_go rfl rfl ?_
 try cbv
 refine call_pure hM hI (T21 _ hr) rfl ?_
 clear hr
 try cbv
 replace h:=letB_inv h
 obtain⟨b33,hz,h⟩:=h
 refine⟨b33,not_eq' hz,?_⟩
 clear hz
 try cbv
 cases b33
 ·replace h:=itF h
  try cbv
  obtain rfl:=Option.some.inj h
  refine fin_go ?_
  try cbv
  exact⟨[],by trivial⟩
 replace h:=itT h
 try cbv
 replace h:=bO1_inv h
 obtain⟨b34,hr,h⟩:=h
 refine call_go rfl rfl ?_
 try cbv
 refine call_pure hM hI (T20 _ hr) rfl ?_
 clear hr
 try cbv
 replace h:=letB_inv h
 obtain⟨b35,hz,h⟩:=h
 refine⟨b35,not_eq' hz,?_⟩
 clear hz
 try cbv
 cases b35
 ·replace h:=itF h
  try cbv
  obtain rfl:=Option.some.inj h
  refine fin_go ?_
  try cbv
  exact⟨[],by trivial⟩
 replace h:=itT h
 try cbv
 replace h:=bO1_inv h
 obtain⟨b36,hr,h⟩:=h
 refine call_go rfl rfl ?_
 try cbv
 refine call_pure hM hI (T20 _ hr) rfl ?_
 clear hr
 try cbv
 replace h:=letB_inv h
 obtain⟨b37,hz,h⟩:=h
 refine⟨b37,not_eq' hz,?_⟩
 clear hz
 try cbv
 cases b37
 ·replace h:=itF h
  try cbv
  obtain rfl:=Option.some.inj h
  refine fin_go ?_
  try cbv
  exact⟨[],by trivial⟩
 replace h:=itT h
 try cbv
 refine⟨false,?_⟩
 try cbv
 refine⟨true,?_⟩
 try cbv
 replace h:=bO1_inv h
 obtain⟨b38,hr,h⟩:=h
 refine call_go rfl rfl ?_
 try cbv
 refine call_pure hM hI (T20 _ hr) rfl ?_
 clear hr
 try cbv
 cases b38
 ·replace h:=itF h
  try cbv
  obtain rfl:=Option.some.inj h
  refine fin_go ?_
  try cbv
  exact⟨[],by trivial⟩
 replace h:=itT h
 try cbv
 refine⟨false,?_⟩
 try cbv
 refine⟨true,?_⟩
 try cbv
 replace h:=bO1_inv h
 obtain⟨b39,hr,h⟩:=h
 refine call_go rfl rfl ?_
 try cbv
 refine call_pure hM hI (T52 _ hr) rfl ?_
 clear hr
 try cbv
 cases b39
 ·replace h:=itF h
  try cbv
  obtain rfl:=Option.some.inj h
  refine fin_go ?_
  try cbv
  exact⟨[],by trivial⟩
 replace h:=itT h
 try cbv
 replace h:=bO1_inv h
 obtain⟨b40,hr,h⟩:=h
 refine call_go rfl rfl ?_
 try cbv
 refine call_pure hM hI (T52 _ hr) rfl ?_
 clear hr
 try cbv
 replace h:=letB_inv h
 obtain⟨b41,hz,h⟩:=h
 refine⟨b41,not_eq' hz,?_⟩
 clear hz
 try cbv
 cases b41
 ·replace h:=itF h
  try cbv
  obtain rfl:=Option.some.inj h
  refine fin_go ?_
  try cbv
  exact⟨[],by trivial⟩
 replace h:=itT h
 try cbv
 replace h:=bO1_inv h
 obtain⟨b42,hr,h⟩:=h
 refine call_go rfl rfl ?_
 try cbv
 refine call_pure hM hI (T25 _ hr) rfl ?_
 clear hr
 try cbv
 cases b42
 ·replace h:=itF h
  try cbv
  obtain rfl:=Option.some.inj h
  refine fin_go ?_
  try cbv
  exact⟨[],by trivial⟩
 replace h:=itT h
 try cbv
 replace h:=getF_inv h
 obtain⟨x43,⟨hx0,hx⟩,h⟩:=h
 refine⟨x43,hx0,hx,?_⟩
 clear hx0 hx
 replace h:=ds_t45_inv h
 obtain⟨z44,s45,l46,z47,s48,l49,l50,z51,z52,s53,s54,s55,l56,l57,z58,z59,rfl,h⟩:=h
 try cbv
 refine splitI (fun e=>?_) (fun e=>?_)
 ·replace h:=ite_t e h
  clear e
  try cbv
  obtain rfl:=Option.some.inj h
  refine fin_go ?_
  try cbv
  exact⟨[],by trivial⟩
 replace h:=ite_f e h
 clear e
 try cbv
 obtain rfl:=Option.some.inj h
 refine fin_go ?_
 try cbv
 exact⟨[],by trivial⟩
end Go.Proofs.YtjmofeakajdbiaaGreatDoor
end
namespace Go.AM
open Go
def Ev {α:Type}(A:Nat→Option α) (r:α):Prop:=∃N,∀n,N≤n→A n=some r
section
variable {α β γ:Type}
theorem Ev.ret {r:α}:Ev (fun _=>some r) r:=⟨0,fun _ _=>rfl⟩
theorem Ev.of {A:Nat→Option α}{r:α}(h:∀n,A n=some r):Ev A r:=⟨0,fun n _=>h n⟩
theorem Ev.succ {A:Nat→Option α}{r:α}(h:Ev (fun n=>A (n+1)) r):Ev A r:=by
 obtain⟨N,h⟩:=h
 refine⟨N+1,fun n hn=>?_⟩
 obtain⟨m,rfl⟩:∃m,n=m+1:=⟨n - 1,by omega⟩
 exact h m (by omega)
theorem Ev.congr {A B:Nat→Option α}{r:α}(h:Ev A r) (e:∀n,A n=B n):Ev B r:=by
 obtain⟨N,h⟩:=h
 exact⟨N,fun n hn=>(e n)▸h n hn⟩
theorem Ev.bO0 {A:Nat→Option Unit}{k:Nat→Option γ}{r:γ}(ha:Ev A ()) (hk:Ev k r):Ev (fun n=>bO0 (A n) (k n)) r:=by
 obtain⟨N,ha⟩:=ha
 obtain⟨M,hk⟩:=hk
 refine⟨N+M,fun n hn=>?_⟩
 show Go.AM.bO0 (A n) (k n)=some r
 rw[ha n (by omega)]
 exact hk n (by omega)
theorem Ev.bO1 {A:Nat→Option α}{a:α}{k:Nat→α→Option γ}{r:γ}(ha:Ev A a) (hk:Ev (fun n=>k n a) r):Ev (fun n=>bO1 (A n) (k n)) r:=by
 obtain⟨N,ha⟩:=ha
 obtain⟨M,hk⟩:=hk
 refine⟨N+M,fun n hn=>?_⟩
 show Go.AM.bO1 (A n) (k n)=some r
 rw[ha n (by omega)]
 exact hk n (by omega)
theorem Ev.bO2 {A:Nat→Option (α×β)}{a:α}{b:β}{k:Nat→α→β→Option γ}{r:γ}(ha:Ev A (a,b)) (hk:Ev (fun n=>k n a b) r):Ev (fun n=>bO2 (A n) (k n)) r:=by
 obtain⟨N,ha⟩:=ha
 obtain⟨M,hk⟩:=hk
 refine⟨N+M,fun n hn=>?_⟩
 show Go.AM.bO2 (A n) (k n)=some r
 rw[ha n (by omega)]
 exact hk n (by omega)
theorem Ev.run {A:Nat→Option α}{r:α}(h:Ev A r):∃n,A n=some r:=let ⟨N,h⟩:=h;⟨N,h N (Nat.le_refl _)⟩
theorem Ev.uniq {A:Nat→Option α}{r s:α}(h:Ev A r) (h':Ev A s):r=s:=by
 obtain⟨N,h⟩:=h
 obtain⟨M,h'⟩:=h'
 have a:=h (N+M) (by omega)
 rw[h' (N+M) (by omega)]at a
 exact (Option.some.inj a).symm
def Agree (A B:Nat→Option α):Prop:=∃r,Ev A r∧Ev B r
theorem down {P:Nat→Prop}(N:Nat) (h0:P N) (h:∀i,i<N→P (i+1)→P i):∀i,i≤N→P i:=by
 intro i hi
 obtain⟨d,hd⟩:∃d,d=N - i:=⟨_,rfl⟩
 induction d generalizing i with
 | zero=>
      obtain rfl:i=N:=by omega
      exact h0
 | succ d ih=>exact h i (by omega) (ih (i+1) (by omega) (by omega))
end
section
variable {γ:Type}
theorem getF_nat {L:List D}{i:Nat}{x:D}{k:D→Option γ}(hx:L[i]?=some x):getF L (i:Int) k=k x:=getF_some (by omega) (by simpa using hx)
theorem wrap_i64' {x:Int}(h: -9223372036854775808≤x∧x≤9223372036854775807):IntKind.i64.wrap x=x:=IntWalk.i64_in x h
theorem wrap_succ {i N:Nat}(h:i<N) (hN:N≤maxLen):IntKind.i64.wrap ((i:Int)+1)=((i+1:Nat):Int):=by
 have:maxLen=9223372036854775807:=rfl
 rw[wrap_i64' (by omega)];omega
end
def RowS (ti:Types) (e:TypeId) (x:D):Prop:=Shape ti e x.cells∧∀y,ti e=some y→x.isAgg=rowD y.desc
def ListS (ti:Types) (e:TypeId) (L:List D):Prop:=L.length≤maxLen∧∀x∈L,RowS ti e x
theorem ListS.get {ti:Types}{e:TypeId}{L:List D}{i:Nat}(h:ListS ti e L) (hi:i<L.length):∃x,L[i]?=some x∧x∈L∧RowS ti e x:=
 ⟨L[i],List.getElem?_eq_getElem hi,List.getElem_mem hi,h.2 _ (List.getElem_mem hi)⟩
def flatFs (ti:Types) (rec:TypeId→Option (List TypeId)):Nat→List Field→Option (List TypeId)
 | _,[]=>some []
 | off,f::r=>match Nat.beq f.offset off with
  | false=>none
  | true=>match ti f.type with
   | none=>none
   | some y=>match rec f.type with
    | none=>none
    | some l=>match Nat.beq l.length y.size with
     | false=>none
     | true=>match flatFs ti rec (off+y.size) r with
      | none=>none
      | some l'=>some (l++l')
def flatT (ti:Types):Nat→TypeId→Option (List TypeId)
 | 0,_=>none
 | n+1,t=>match ti t with
  | none=>none
  | some x=>match x.desc with
   | .struct fs=>match flatFs ti (flatT ti n) 0 fs.toList with
    | none=>none
    | some l=>match Nat.beq l.length x.size with
     | true=>some l
     | false=>none
   | .array ..=>none
   | _=>some [t]
theorem Shape.one {ti:Types}{t:TypeId}{x:TI}{ds:List D}(h:Shape ti t ds) (hx:ti t=some x) (hd:∀fs,x.desc≠ .struct fs):∃c,ds=[c]:=by
 cases h with
 | struct ds h1 h2=>rw[hx]at h1;obtain rfl:=Option.some.inj h1;exact absurd h2 (hd _)
 | _=>exact⟨_,rfl⟩
theorem flatFs_ok {ti:Types}{rec:TypeId→Option (List TypeId)}{ds:List D}
  (hrec:∀t ls cs,rec t=some ls→Shape ti t cs→cs.length=ls.length∧∀(j:Nat) c tl,cs[j]?=some c→ls[j]?=some tl→Shape ti tl [c]):
  ∀(fs:List Field) (off:Nat) (ls:List TypeId),flatFs ti rec off fs=some ls→(∀f∈fs,∀y,ti f.type=some y→Shape ti f.type ((ds.drop f.offset).take y.size))→
   ∀(j:Nat) c tl,ds[off+j]?=some c→ls[j]?=some tl→Shape ti tl [c]
 | [],off,ls,h,_,j,c,tl,_,hl=>by
  cases h;simp at hl
 | f::fs,off,ls,h,hs,j,c,tl,hc,hl=>by
  unfold flatFs at h
  split at h
  ·cases h
  ·rename_i ho
   have ho:=Nat.eq_of_beq_eq_true ho
   split at h
   ·cases h
   ·rename_i y hy
    split at h
    ·cases h
    ·rename_i l hr
     split at h
     ·cases h
     ·rename_i hb
      have hb:=Nat.eq_of_beq_eq_true hb
      split at h
      ·cases h
      ·rename_i l' hl'
       cases h
       obtain⟨h1,h2⟩:=hrec _ _ _ hr (hs f (by simp) y hy)
       by_cases hj:j<l.length
       ·rw[List.getElem?_append_left hj]at hl
        refine h2 j c tl ?_ hl
        rw[List.getElem?_take,if_pos (by omega),List.getElem?_drop,ho]
        exact hc
       ·rw[List.getElem?_append_right (by omega)]at hl
        refine flatFs_ok hrec fs _ l' hl' (fun f' hf'=>hs f' (List.mem_cons_of_mem _ hf')) (j - l.length) c tl ?_ hl
        rw[←hc];congr 1;omega
theorem Shape.flat {ti:Types}:
  ∀(n:Nat) (t:TypeId) (ls:List TypeId) (ds:List D),flatT ti n t=some ls→Shape ti t ds→ds.length=ls.length∧∀(j:Nat) c tl,ds[j]?=some c→ls[j]?=some tl→Shape ti tl [c]
 | 0,t,ls,ds,h,_=>by cases h
 | n+1,t,ls,ds,h,hs=>by
  unfold flatT at h
  split at h
  ·cases h
  ·rename_i x hx
   have single:(∀fs,x.desc≠ .struct fs)→ls=[t]→ds.length=ls.length∧∀(j:Nat) c tl,ds[j]?=some c→ls[j]?=some tl→Shape ti tl [c]:=by
    rintro hd rfl
    obtain⟨c,rfl⟩:=hs.one hx hd
    refine⟨rfl,fun j c' tl h1 h2=>?_⟩
    match j with
    | 0=>simp at h1 h2;subst h1;subst h2;exact hs
    | j+1=>simp at h1
   split at h
   ·rename_i fs hd
    obtain⟨h1,_,h3⟩:=hs.struct_inv hx hd
    split at h
    ·cases h
    ·rename_i l hl
     split at h
     ·rename_i hb
      cases h
      refine⟨h1.trans (Nat.eq_of_beq_eq_true hb).symm,fun j c tl h4 h5=>?_⟩
      exact flatFs_ok (fun t ls cs h6 h7=>Shape.flat n t ls cs h6 h7) fs.toList 0 ls hl h3 j c tl (by simpa using h4) h5
     ·cases h
   ·cases h
   ·rename_i h1 h2
    cases h
    exact single h1 rfl
theorem RowS.agg {ti:Types}{e:TypeId}{x:D}{y:TI}(h:RowS ti e x) (hy:ti e=some y) (hr:rowD y.desc=true):∃cs,x= .agg cs∧Shape ti e cs:=by
 have h1:=(h.2 y hy).trans hr
 cases x<;>simp[D.isAgg]at h1
 exact⟨_,rfl,h.1⟩
theorem RowS.flat1 {ti:Types}{e:TypeId}{x:D}{y:TI}(h:RowS ti e x) (hy:ti e=some y) (hr:rowD y.desc=false):Shape ti e [x]:=by
 have h1:=(h.2 y hy).trans hr
 have h0:=h.1
 cases x<;>simp_all [D.isAgg,D.cells]
theorem Shape.listS {ti:Types}{t e:TypeId}{x y:TI}{c:D}(h:Shape ti t [c]) (hx:ti t=some x) (hd:x.desc= .slice e) (hy:ti e=some y):
  ∃L,c= .list (rowD y.desc) y.size L∧ListS ti e L:=by
 obtain⟨L,e1,h1,h2,h3⟩:=h.slice_inv hx hd hy
 refine⟨L,(List.cons.inj e1).1,h1,fun r hr=>⟨h3 r hr,fun y' hy'=>?_⟩⟩
 rw[hy]at hy'
 obtain rfl:=Option.some.inj hy'
 exact (h2 r hr).1
theorem Shape.intS {ti:Types}{t:TypeId}{x:TI}{k:IntKind}{c:D}(h:Shape ti t [c]) (hx:ti t=some x) (hd:x.desc= .int k):∃n,c= .int k n∧(Lit.int k n).wf=true:=by
 obtain⟨n,e,hw⟩:=h.int_inv hx hd
 exact⟨n,(List.cons.inj e).1,hw⟩
theorem Shape.strS {ti:Types}{t:TypeId}{x:TI}{c:D}(h:Shape ti t [c]) (hx:ti t=some x) (hd:x.desc= .string):∃s,c= .str s∧s.size≤maxLen:=by
 obtain⟨n,e,hw⟩:=h.str_inv hx hd
 exact⟨n,(List.cons.inj e).1,hw⟩
theorem u8_range {n:Int}(h:(Lit.int .u8 n).wf=true):0≤n∧n<256:=by
 simp[Lit.wf,show IntKind.u8.min=0 from rfl,show IntKind.u8.max=255 from rfl,show IntKind.i64.min= -9223372036854775808 from rfl,show IntKind.i64.max=9223372036854775807 from rfl]at h
 omega
theorem size_row {ag:Bool}{sz:Nat}{L M:List D}{cs:List D}(h:D.agg cs∈L) (h2:D.list ag sz M∈cs):SizeOf.sizeOf M<SizeOf.sizeOf L:=by
 have h1:=List.sizeOf_lt_of_mem h
 have h3:=List.sizeOf_lt_of_mem h2
 simp at h1 h3
 omega
theorem list_ind {P:List D→Prop}(H:∀L,(∀M,SizeOf.sizeOf M<SizeOf.sizeOf L→P M)→P L) (L:List D):P L:=by
 obtain⟨m,hm⟩:∃m,SizeOf.sizeOf L<m:=⟨_,Nat.lt_succ_self _⟩
 induction m generalizing L with
 | zero=>omega
 | succ m ih=>exact H L (fun M hM=>ih M (by omega))
end Go.AM
set_option linter.unusedVariables false
noncomputable section
namespace Go.Proofs.YtjmofeakajdbiaaGreatDoor
open Go Go.AM
mutual
def L146_1:Nat->BA->Int->Option (Bool)
 | 0,_,_=>none
 | n+1,s1,z2=>
  (if z2<(47:Int)then L146_2 n s1 z2 true else L146_2 n s1 z2 false)
def L146_2:Nat->BA->Int->Bool->Option (Bool)
 | 0,_,_,_=>none
 | n+1,s1,z2,b3=>
  (if b3=true then getF ([.str k_let,.str k_if,.str k_else,.str k_while,.str k_match,.str k_scope,.str k_spawn,.str k_lock,.str k_as,.str k_chan,.str k_drop,.str k_fn,.str k_struct,.str k_enum,.str k_true,.str k_false,.str k_and,.str k_or,.str k_not,.str k_int,.str k_bool,.str k_unit,.str k_mut,.str k_box,.str k_unbox,.str k_cell,.str k_get,.str k_set,.str k_rc,.str k_arc,.str k_clone,.str k_mutex,.str k_open,.str k_atomic,.str k_load,.str k_store,.str k_fetch,.str k_send,.str k_recv,.str k_Box,.str k_Cell,.str k_Rc,.str k_Arc,.str k_Mutex,.str k_Atomic,.str k_Sender,.str k_Receiver]) z2 fun x4=>ds_str x4 fun s5=>(if s5=s1 then L146_3 n s1 z2 true else L146_3 n s1 z2 false)else some false)
def L146_3:Nat->BA->Int->Bool->Option (Bool)
 | 0,_,_,_=>none
 | n+1,s1,z2,b6=>
  (if b6=true then some true else letF (IntKind.wrap .i64 (z2+1)) fun z7=>L146_1 n s1 z7)
end
def F146 (n:Nat) (s1:BA):Option (Bool):=
 L146_1 n s1 (0:Int)
end Go.Proofs.YtjmofeakajdbiaaGreatDoor
end
set_option linter.unusedVariables false
noncomputable section
namespace Go.Proofs.YtjmofeakajdbiaaGreatDoor
open Go Go.AM
def bl (s:ByteArray):List UInt8:=s.data.toList
theorem bl_len (s:ByteArray):s.size=(bl s).length:=(Array.length_toList (xs:=s.data)).symm
theorem bl_inj {s t:ByteArray}(h:bl s=bl t):s=t:=by
 cases s;cases t
 simp only[bl]at h
 rw[Array.toList_inj.1 h]
theorem atF_get {γ:Type}{s:ByteArray}{i:Nat}{b:UInt8}{k:Int→Option γ}(h:(bl s)[i]?=some b):atF s (i:Int) k=k (b.toNat:Int):=by
 have hlt:i<s.size:=by rw[bl_len];exact (List.getElem?_eq_some_iff.1 h).1
 have hb:s[i]=b:=by
  have:=(List.getElem?_eq_some_iff.1 h).2
  rw[←this]
  simp[bl]
  rfl
 have h1:s[(i:Int).toNat]?=some b:=by
  rw[Int.toNat_natCast,getElem?_pos s i hlt,hb]
 unfold atF
 rw[if_pos (Int.natCast_nonneg i),h1]
 rfl
theorem szF_eq {γ:Type}{s:ByteArray}{k:Int→Option γ}:szF s k=k ((bl s).length:Int):=by
 unfold szF
 rw[bl_len]
def wordsL:List ByteArray:=[k_let,k_if,k_else,k_while,k_match,k_scope,k_spawn,k_lock,k_as,k_chan,k_drop,k_fn,k_struct,k_enum,k_true,k_false,k_and,k_or,k_not,k_int,k_bool,k_unit,k_mut,k_box,k_unbox,k_cell,k_get,k_set,k_rc,k_arc,k_clone,k_mutex,k_open,k_atomic,k_load,k_store,k_fetch,k_send,k_recv,k_Box,k_Cell,k_Rc,k_Arc,k_Mutex,k_Atomic,k_Sender,k_Receiver]
def word (s:ByteArray):Bool:=wordsL.any fun w=>decide (bl w=bl s)
theorem word_iff {s:ByteArray}:word s=true↔s∈wordsL:=by
 unfold word
 rw[List.any_eq_true]
 constructor
 ·rintro⟨w,hw,h⟩
  rw[←bl_inj (of_decide_eq_true h)];exact hw
 ·intro h
  exact⟨s,h,decide_eq_true rfl⟩
theorem word_no {s:ByteArray}(h:s∉wordsL):word s=false:=by
 cases hw:word s
 ·rfl
 ·exact absurd (word_iff.1 hw) h
theorem beq_bytes {a b:ByteArray}:(a==b)=true↔a=b:=by
 rw[beq_toListBytes]
 constructor
 ·intro h
  have h:=eq_of_beq h
  rw[ByteArray.toList_eq,ByteArray.toList_eq]at h
  exact bl_inj h
 ·rintro rfl
  exact beq_self_eq_true _
inductive WRows:List ByteArray→List D→Prop where
 | nil:WRows [] []
 | cons {w:ByteArray} {z:Int} {ws:List ByteArray} {rows:List D} (hz:0<z) (h:WRows ws rows):WRows (w::ws) (.agg [.str w,.int .i64 z]::rows)
theorem WRows.find {s:ByteArray}:∀{ws:List ByteArray}{rows:List D},WRows ws rows→(s∉ws∧findR false (.str s) rows=some none)∨∃z,s∈ws∧0<z∧findR false (.str s) rows=some (some (.int .i64 z))
 | _,_,.nil=>.inl ⟨by simp,rfl⟩
 | _,_,.cons (w:=w) (z:=z) (ws:=ws) (rows:=rows) hz h=>by
  cases hb:(s==w)with
  | true=>
   have:=beq_bytes.1 hb
   subst this
   exact .inr ⟨z,by simp,hz,by simp[findR,eqK,hb,rowOf]⟩
  | false=>
   have hne:s≠w:=fun e=>by rw[beq_bytes.2 e]at hb;cases hb
   rcases h.find (s:=s)with⟨h1,h2⟩ | ⟨z',h1,h2,h3⟩
   ·exact .inl ⟨by simp[hne,h1],by simp[findR,eqK,hb,h2]⟩
   ·exact .inr ⟨z',by simp[h1],h2,by simp[findR,eqK,hb,h3]⟩
theorem WRows.put {s:ByteArray}{z:Int}(hz:0<z):∀{ws:List ByteArray}{rows:List D},WRows ws rows→∃ws' rows',putR (.str s) [.int .i64 z] rows=some rows'∧WRows ws' rows'∧∀t,t∈ws'↔t=s∨t∈ws
 | _,_,.nil=>⟨[s],_,rfl,.cons hz .nil,by simp⟩
 | _,_,.cons (w:=w) (z:=z') (ws:=ws) (rows:=rows) hz' h=>by
  cases hb:(s==w)with
  | true=>
   have:=beq_bytes.1 hb
   subst this
   exact⟨s::ws,.agg [.str s,.int .i64 z]::rows,by simp[putR,eqK,hb],.cons hz h,by intro t;simp⟩
  | false=>
   obtain⟨ws',rows',h1,h2,h3⟩:=h.put (s:=s) hz
   refine⟨w::ws',.agg [.str w,.int .i64 z']::rows',by simp[putR,eqK,hb,h1],.cons hz' h2,fun t=>?_⟩
   simp only[List.mem_cons,h3]
   constructor
   ·rintro (h | h | h)<;>simp[h]
   ·rintro (h | h | h)<;>simp[h]
theorem fields_words:fieldsD k_let_if_else_while_match_=wordsL.map D.str:=by kernel_rfl
theorem ev50:Ev (fun n=>F152 n k_let_if_else_while_match_) (wordsL.map D.str):=Ev.of fun n=>by
 rw[←fields_words]
 unfold F152
 have h1:Nat.ble (k_let_if_else_while_match_).size 1000=true:=by kernel_rfl
 have h1:=Nat.le_of_ble_eq_true h1
 have h2:(Lib.fields (k_let_if_else_while_match_).data.toList).length=47:=by kernel_rfl
 rw[if_pos (by rw[h2];exact⟨by omega,by kernel_rfl,by decide⟩)]
theorem wordsL_len:wordsL.length=47:=rfl
theorem ev30:∃ws rows,Ev (fun n=>F151 n) rows∧WRows ws rows∧∀t,t∈ws↔t∈wordsL:=by
 have main:∀i:Nat,i≤47→∀ws rows,WRows ws rows→∃ws' rows',Ev (fun n=>L151_1 n (wordsL.map D.str) 47 (i:Int) rows) rows'∧WRows ws' rows'∧∀t,t∈ws'↔t∈wordsL.drop i∨t∈ws:=by
  refine down 47 ?_ ?_
  ·intro ws rows h
   refine⟨ws,rows,.succ (.succ (.of fun n=>?_)),h,fun t=>?_⟩
   ·rw[L151_1,if_neg (by omega),L151_2,if_neg Bool.false_ne_true]
   ·rw[List.drop_eq_nil_of_le (by rw[wordsL_len];omega)]
    simp
  ·intro i hi ih ws rows h
   have hlt:i<wordsL.length:=by rw[wordsL_len];exact hi
   obtain⟨ws1,rows1,h1,h2,h3⟩:=h.put (s:=wordsL[i]) (z:=((i+1:Nat):Int)) (by omega)
   obtain⟨ws2,rows2,h4,h5,h6⟩:=ih ws1 rows1 h2
   refine⟨ws2,rows2,.succ (.succ (h4.congr fun n=>?_)),h5,fun t=>?_⟩
   ·have hw:(wordsL.map D.str)[i]?=some (.str wordsL[i]):=by simp[hlt]
    rw[L151_1,if_pos (by omega),L151_2,if_pos rfl,getF_nat hw]
    simp only[ds_str,letF,wrap_succ (N:=47) hi (by decide)]
    unfold putF
    rw[h1]
   ·rw[h6,h3,List.drop_eq_getElem_cons hlt]
    simp only[List.mem_cons]
    constructor
    ·rintro (h | h | h)<;>simp[h]
    ·rintro ((h | h) | h)<;>simp[h]
 obtain⟨ws,rows,h1,h2,h3⟩:=main 0 (by omega) [] [] .nil
 refine⟨ws,rows,?_,h2,by simpa using h3⟩
 unfold F151
 refine Ev.bO1 ev50 (h1.congr fun n=>?_)
 unfold lenF
 rfl
theorem ev11 (s:ByteArray):Ev (fun n=>F144 n s) (word s):=by
 obtain⟨ws,rows,h1,h2,h3⟩:=ev30
 unfold F144
 refine Ev.bO1 h1 (Ev.of fun n=>?_)
 unfold findF
 rcases h2.find (s:=s)with⟨h4,h5⟩ | ⟨z,h4,h5,h6⟩
 ·rw[h5]
  have:s∉wordsL:=fun h=>h4 ((h3 s).2 h)
  rw[word_no this]
 ·rw[h6]
  have:s∈wordsL:=(h3 s).1 h4
  rw[word_iff.2 this]
  simp[ds_i64,h5]
theorem ev12 (s:ByteArray):Ev (fun n=>F146 n s) (word s):=by
 have main:∀i:Nat,i≤47→Ev (fun n=>L146_1 n s (i:Int)) ((wordsL.drop i).any fun w=>decide (bl w=bl s)):=by
  refine down 47 ?_ ?_
  ·refine .succ (.succ (.of fun n=>?_))
   rw[L146_1,if_neg (by omega),L146_2,if_neg Bool.false_ne_true,List.drop_eq_nil_of_le (by rw[wordsL_len];omega)]
   rfl
  ·intro i hi ih
   have hlt:i<wordsL.length:=by rw[wordsL_len];exact hi
   have hw:(wordsL.map D.str)[i]?=some (.str wordsL[i]):=by simp[hlt]
   have hw:([.str k_let,.str k_if,.str k_else,.str k_while,.str k_match,.str k_scope,.str k_spawn,.str k_lock,.str k_as,.str k_chan,.str k_drop,.str k_fn,.str k_struct,.str k_enum,.str k_true,.str k_false,.str k_and,.str k_or,.str k_not,.str k_int,.str k_bool,.str k_unit,.str k_mut,.str k_box,.str k_unbox,.str k_cell,.str k_get,.str k_set,.str k_rc,.str k_arc,.str k_clone,.str k_mutex,.str k_open,.str k_atomic,.str k_load,.str k_store,.str k_fetch,.str k_send,.str k_recv,.str k_Box,.str k_Cell,.str k_Rc,.str k_Arc,.str k_Mutex,.str k_Atomic,.str k_Sender,.str k_Receiver]:List D)[i]?=some (.str wordsL[i]):=hw
   rw[List.drop_eq_getElem_cons hlt,List.any_cons]
   by_cases he:wordsL[i]=s
   ·refine .succ (.succ (.succ (.of fun n=>?_)))
    rw[L146_1,if_pos (by omega),L146_2,if_pos rfl,getF_nat hw]
    simp only[ds_str]
    rw[if_pos he,L146_3,if_pos rfl,decide_eq_true (congrArg bl he)]
    rfl
   ·rw[decide_eq_false (fun e=>he (bl_inj e)),Bool.false_or]
    refine .succ (.succ (.succ (ih.congr fun n=>?_)))
    rw[L146_1,if_pos (by omega),L146_2,if_pos rfl,getF_nat hw]
    simp only[ds_str]
    rw[if_neg he,L146_3,if_neg Bool.false_ne_true]
    simp only[letF,wrap_succ (N:=47) hi (by decide)]
 have:=main 0 (by omega)
 unfold F146 word
 exact this
end Go.Proofs.YtjmofeakajdbiaaGreatDoor
set_option linter.unusedVariables false
noncomputable section
namespace Go.Proofs.YtjmofeakajdbiaaGreatDoor
open Go Go.AM
def F147 (n:Nat) (z1:Int):Option (Bool):=
 (if (97:Int)<=z1 then (if z1<=(122:Int)then some true else (if (65:Int)<=z1 then (if z1<=(90:Int)then some true else (if (48:Int)<=z1 then (if z1<=(57:Int)then some true else (if z1=(95:Int)then some true else some false))else (if z1=(95:Int)then some true else some false)))else (if (48:Int)<=z1 then (if z1<=(57:Int)then some true else (if z1=(95:Int)then some true else some false))else (if z1=(95:Int)then some true else some false))))else (if (65:Int)<=z1 then (if z1<=(90:Int)then some true else (if (48:Int)<=z1 then (if z1<=(57:Int)then some true else (if z1=(95:Int)then some true else some false))else (if z1=(95:Int)then some true else some false)))else (if (48:Int)<=z1 then (if z1<=(57:Int)then some true else (if z1=(95:Int)then some true else some false))else (if z1=(95:Int)then some true else some false))))
mutual
def L131_2:Nat->BA->Int->Option (Bool)
 | 0,_,_=>none
 | n+1,s1,z9=>
  szF s1 fun z10=>(if z9<z10 then L131_3 n s1 z9 true else L131_3 n s1 z9 false)
def L131_3:Nat->BA->Int->Bool->Option (Bool)
 | 0,_,_,_=>none
 | n+1,s1,z9,b11=>
  (if b11=true then atF s1 z9 fun z12=>bO1 (F147 n z12) fun b13=>letB (!b13) fun b14=>(if b14=true then some false else letF (IntKind.wrap .i64 (z9+1)) fun z15=>L131_2 n s1 z15)else some true)
end
def L131_1:Nat->BA->Bool->Option (Bool)
 | 0,_,_=>none
 | n+1,s1,b8=>
  (if b8=true then some false else L131_2 n s1 (0:Int))
def F131 (n:Nat) (s1:BA) (z2:Int) (z3:Int):Option (Bool):=
 (if s1=ByteArray.empty then L131_1 n s1 true else szF s1 fun z4=>(if (16:Int)<z4 then L131_1 n s1 true else atF s1 (0:Int) fun z5=>(if z5<z2 then L131_1 n s1 true else atF s1 (0:Int) fun z6=>(if z3<z6 then L131_1 n s1 true else bO1 (F146 n s1) fun b7=>L131_1 n s1 b7))))
def F81 (n:Nat) (s1:BA):Option (Bool):=
 bO1 (F131 n s1 (97:Int) (122:Int)) fun b2=>some b2
def F78 (n:Nat) (s1:BA):Option (Bool):=
 bO1 (F131 n s1 (65:Int) (90:Int)) fun b2=>some b2
end Go.Proofs.YtjmofeakajdbiaaGreatDoor
end
set_option linter.unusedVariables false
noncomputable section
namespace Go.Proofs.YtjmofeakajdbiaaGreatDoor
open Go Go.AM
def inZ (lo hi z:Int):Bool:=decide (lo≤z∧z≤hi)
def partZ (z:Int):Bool:=inZ 97 122 z || inZ 65 90 z || inZ 48 57 z || decide (z=95)
def pB (b:UInt8):Bool:=partZ (b.toNat:Int)
theorem f32 (n:Nat) (z:Int):F123 n z=some (inZ 97 122 z):=by
 unfold F123 inZ
 grind
theorem f34 (n:Nat) (z:Int):F122 n z=some (inZ 65 90 z):=by
 unfold F122 inZ
 grind
theorem f67 (n:Nat) (z:Int):F150 n z=some (inZ 48 57 z):=by
 unfold F150 inZ
 grind
theorem f52 (n:Nat) (z:Int):F143 n z=some (partZ z):=by
 unfold F143 partZ
 rw[f32,f34,f67]
 simp only[bO1]
 cases inZ 97 122 z<;>cases inZ 65 90 z<;>cases inZ 48 57 z<;>grind
theorem f53 (n:Nat) (z:Int):F147 n z=some (partZ z):=by
 unfold F147 partZ inZ
 grind
theorem pre_get {α:Type}{l pre rest:List α}{b:α}(h:pre++b::rest=l):l[pre.length]?=some b:=by
 rw[←h,List.getElem?_append_right (Nat.le_refl _)]
 simp
theorem evL51 {s:ByteArray}(hs:s.size≤maxLen):∀(rest pre:List UInt8),pre++rest=bl s→Ev (fun n=>L142_1 n s (pre.length:Int)) (((pre.length+(rest.takeWhile pB).length:Nat):Int))
 | [],pre,h=>by
  refine .succ (.succ (.of fun n=>?_))
  rw[L142_1,szF_eq,←h,if_neg (by simp),L142_2,if_neg Bool.false_ne_true]
  simp
 | b::rest,pre,h=>by
  have hlt:pre.length<(bl s).length:=by rw[←h];simp
  have hb:=pre_get h
  cases hp:pB b with
  | false=>
   refine .succ (.succ (.of fun n=>?_))
   rw[L142_1,szF_eq,if_pos (by omega),atF_get hb,f52]
   simp only[bO1]
   rw[show partZ (b.toNat:Int)=false from hp,L142_2,if_neg Bool.false_ne_true]
   simp[hp]
  | true=>
   have ih:=evL51 hs rest (pre++[b]) (by simpa using h)
   have e:(pre++[b]).length+(rest.takeWhile pB).length=pre.length+((b::rest).takeWhile pB).length:=by
    simp[hp];omega
   rw[e]at ih
   refine .succ (.succ (ih.congr fun n=>?_))
   rw[L142_1,szF_eq,if_pos (by omega),atF_get hb,f52]
   simp only[bO1]
   rw[show partZ (b.toNat:Int)=true from hp,L142_2,if_pos rfl]
   simp only[letF]
   rw[wrap_succ (N:=(bl s).length) hlt (by rw[←bl_len];exact hs)]
   simp
theorem ev51 {s:ByteArray}(hs:s.size≤maxLen):Ev (fun n=>F142 n s) (((bl s).takeWhile pB).length:Int):=by
 have:=evL51 hs (bl s) [] rfl
 unfold F142
 simpa using this
def nm (lo hi:Int) (s:ByteArray):Bool:=
 match bl s with
 | []=>false
 | b::r=>decide ((b::r).length≤16)&&inZ lo hi (b.toNat:Int)&&(b::r).all pB&&!word s
theorem takeWhile_all {α:Type}{p:α→Bool}:∀{l:List α},((l.takeWhile p).length=l.length)↔l.all p=true
 | []=>by simp
 | x::l=>by
  cases h:p x
  ·simp[h]
  ·simp[h,takeWhile_all (l:=l)]
theorem empty_iff {s:ByteArray}:s=ByteArray.empty↔bl s=[]:=by
 constructor
 ·rintro rfl;rfl
 ·intro h;exact bl_inj h
theorem ev_nm {G:Nat→Int→Option Bool}{lo hi:Int}(hG:∀n z,G n z=some (inZ lo hi z)) {s:ByteArray}(hs:s.size≤maxLen):
  Ev (fun n=>(if s=ByteArray.empty then some false else szF s fun z2=>(if z2≤(16:Int)then atF s (0:Int) fun z3=>bO1 (G n z3) fun b4=>(if b4=true then bO1 (F142 n s) fun z5=>szF s fun z6=>(if z5=z6 then bO1 (F144 n s) fun b7=>letB (!b7) fun b8=>some b8 else some false)else some false)else some false))) (nm lo hi s):=by
 cases h:bl s with
 | nil=>
  have hr:nm lo hi s=false:=by unfold nm;rw[h]
  rw[hr]
  exact .of fun n=>by rw[if_pos (empty_iff.2 h)]
 | cons b r=>
  have hr:nm lo hi s=(decide ((b::r).length≤16)&&inZ lo hi (b.toNat:Int)&&(b::r).all pB&&!word s):=by unfold nm;rw[h]
  rw[hr]
  clear hr
  have hne:s≠ByteArray.empty:=fun e=>by rw[empty_iff.1 e]at h;cases h
  have hb:(bl s)[0]?=some b:=by rw[h];rfl
  by_cases hl:(b::r).length≤16
  ·cases hz:inZ lo hi (b.toNat:Int)with
   | false=>
    refine .of fun n=>?_
    rw[if_neg hne,szF_eq,h,if_pos (by omega),show (0:Int)=((0:Nat):Int)from rfl,atF_get hb,hG,hz]
    simp[bO1]
   | true=>
    have step:∀r',Ev (fun n=>bO1 (F142 n s) fun z5=>szF s fun z6=>(if z5=z6 then bO1 (F144 n s) fun b7=>letB (!b7) fun b8=>some b8 else some false)) r'→
      Ev (fun n=>(if s=ByteArray.empty then some false else szF s fun z2=>(if z2≤(16:Int)then atF s (0:Int) fun z3=>bO1 (G n z3) fun b4=>(if b4=true then bO1 (F142 n s) fun z5=>szF s fun z6=>(if z5=z6 then bO1 (F144 n s) fun b7=>letB (!b7) fun b8=>some b8 else some false)else some false)else some false))) r':=fun r' hr=>hr.congr fun n=>by
     rw[if_neg hne,szF_eq (s:=s) (k:=fun z2=>if z2≤(16:Int)then _ else _),h,if_pos (by omega),show (0:Int)=((0:Nat):Int)from rfl,atF_get hb,hG,hz]
     simp[bO1]
    refine step _ (Ev.bO1 (ev51 hs) ?_)
    cases ha:(b::r).all pB with
    | false=>
     refine .of fun n=>?_
     rw[szF_eq,if_neg]
     ·simp
     ·intro e
      have:((bl s).takeWhile pB).length=(bl s).length:=by omega
      rw[takeWhile_all,h,ha]at this
      cases this
    | true=>
     refine Ev.congr (A:=fun n=>bO1 (F144 n s) fun b7=>letB (!b7) fun b8=>some b8) ?_ fun n=>?_
     ·refine Ev.bO1 (ev11 s) (.of fun n=>?_)
      simp only[letB,decide_eq_true hl,Bool.true_and]
     ·rw[szF_eq,if_pos]
      have:=takeWhile_all.2 (h▸ha:(bl s).all pB=true)
      omega
  ·refine .of fun n=>?_
   rw[if_neg hne,szF_eq,h,if_neg (by omega),decide_eq_false hl]
   rfl
theorem ev31 {s:ByteArray}(hs:s.size≤maxLen):Ev (fun n=>F121x1 n s) (nm 97 122 s):=ev_nm f32 hs
theorem ev31x1 {s:ByteArray}(hs:s.size≤maxLen):Ev (fun n=>F121 n s) (nm 65 90 s):=ev_nm f34 hs
theorem ev13 {s:ByteArray}(hs:s.size≤maxLen):Ev (fun n=>F74 n s) (nm 97 122 s):=Ev.bO1 (ev31 hs) .ret
theorem ev15 {s:ByteArray}(hs:s.size≤maxLen):Ev (fun n=>F73 n s) (nm 65 90 s):=Ev.bO1 (ev31x1 hs) .ret
theorem evL33 {s:ByteArray}(hs:s.size≤maxLen):∀(rest pre:List UInt8),pre++rest=bl s→Ev (fun n=>L131_2 n s (pre.length:Int)) (rest.all pB)
 | [],pre,h=>by
  refine .succ (.succ (.of fun n=>?_))
  rw[L131_2,szF_eq,←h,if_neg (by simp),L131_3,if_neg Bool.false_ne_true]
  simp
 | b::rest,pre,h=>by
  have hlt:pre.length<(bl s).length:=by rw[←h];simp
  have hb:=pre_get h
  cases hp:pB b with
  | false=>
   refine .succ (.succ (.of fun n=>?_))
   rw[L131_2,szF_eq,if_pos (by omega),L131_3,if_pos rfl,atF_get hb,f53]
   simp only[bO1,letB]
   rw[show partZ (b.toNat:Int)=false from hp]
   simp[hp]
  | true=>
   have ih:=evL33 hs rest (pre++[b]) (by simpa using h)
   refine .succ (.succ (Ev.congr (r:=(b::rest).all pB) (by simpa [hp] using ih) fun n=>?_))
   rw[L131_2,szF_eq,if_pos (by omega),L131_3,if_pos rfl,atF_get hb,f53]
   simp only[bO1,letB]
   rw[show partZ (b.toNat:Int)=true from hp]
   simp only[letF,Bool.not_true,Bool.false_eq_true,if_false]
   rw[wrap_succ (N:=(bl s).length) hlt (by rw[←bl_len];exact hs)]
   simp
theorem ev33 {s:ByteArray}(hs:s.size≤maxLen) (lo hi:Int):Ev (fun n=>F131 n s lo hi) (nm lo hi s):=by
 have t:∀n,L131_1 (n+1) s true=some false:=fun n=>by rw[L131_1,if_pos rfl]
 cases h:bl s with
 | nil=>
  have hr:nm lo hi s=false:=by unfold nm;rw[h]
  rw[hr]
  exact .succ (.of fun n=>by unfold F131;rw[if_pos (empty_iff.2 h),t])
 | cons b r=>
  have hr:nm lo hi s=(decide ((b::r).length≤16)&&inZ lo hi (b.toNat:Int)&&(b::r).all pB&&!word s):=by unfold nm;rw[h]
  rw[hr]
  clear hr
  have hne:s≠ByteArray.empty:=fun e=>by rw[empty_iff.1 e]at h;cases h
  have hb:(bl s)[0]?=some b:=by rw[h];rfl
  have z0:(0:Int)=((0:Nat):Int):=rfl
  by_cases hl:(b::r).length≤16
  ·by_cases h1:(b.toNat:Int)<lo
   ·refine .succ (.of fun n=>?_)
    unfold F131
    rw[if_neg hne,szF_eq,h,if_neg (by omega),z0,atF_get hb,if_pos h1,t]
    simp[inZ,show ¬lo≤(b.toNat:Int)by omega]
   ·by_cases h2:hi<(b.toNat:Int)
    ·refine .succ (.of fun n=>?_)
     unfold F131
     rw[if_neg hne,szF_eq,h,if_neg (by omega),z0,atF_get hb,if_neg h1,atF_get hb,if_pos h2,t]
     simp[inZ,show ¬(b.toNat:Int)≤hi by omega]
    ·have hin:inZ lo hi (b.toNat:Int)=true:=by simp[inZ];omega
     refine Ev.congr (A:=fun n=>bO1 (F146 n s) fun b7=>L131_1 n s b7) (Ev.bO1 (ev12 s) ?_) fun n=>?_
     ·cases hw:word s with
      | true=>exact .succ (.of fun n=>by rw[t];simp)
      | false=>
       refine .succ ?_
       have h9:Ev (fun n=>L131_2 n s ((0:Nat):Int)) ((bl s).all pB):=evL33 hs (bl s) [] rfl
       have h8:Ev (fun n=>L131_1 (n+1) s false) ((bl s).all pB):=h9.congr fun n=>by rw[L131_1,if_neg Bool.false_ne_true];rfl
       rw[h]at h8
       rw[decide_eq_true hl,hin,Bool.true_and,Bool.true_and,Bool.not_false,Bool.and_true]
       exact h8
     ·unfold F131
      rw[if_neg hne,szF_eq,h,if_neg (by omega),z0,atF_get hb,if_neg h1,atF_get hb,if_neg h2]
  ·refine .succ (.of fun n=>?_)
   unfold F131
   rw[if_neg hne,szF_eq,h,if_pos (by omega),t,decide_eq_false hl]
   rfl
theorem ev14 {s:ByteArray}(hs:s.size≤maxLen):Ev (fun n=>F81 n s) (nm 97 122 s):=Ev.bO1 (ev33 hs 97 122) .ret
theorem ev16 {s:ByteArray}(hs:s.size≤maxLen):Ev (fun n=>F78 n s) (nm 65 90 s):=Ev.bO1 (ev33 hs 65 90) .ret
end Go.Proofs.YtjmofeakajdbiaaGreatDoor
set_option linter.unusedVariables false
noncomputable section
namespace Go.Proofs.YtjmofeakajdbiaaGreatDoor
open Go Go.AM
def L26_1:Nat->BA->Int->Bool->Option (Int)
 | 0,_,_,_=>none
 | n+1,s1,z2,b5=>
  (if b5=true then some (-1:Int)else letF (IntKind.wrap .i64 (z2 - 5)) fun z6=>szF s1 fun z7=>letF (IntKind.wrap .i64 (z6 - z7)) fun z8=>some z8)
def F26 (n:Nat) (s1:BA) (z2:Int):Option (Int):=
 (if z2<(5:Int)then L26_1 n s1 z2 true else szF s1 fun z3=>letF (IntKind.wrap .i64 (z2 - 5)) fun z4=>(if z4<z3 then L26_1 n s1 z2 true else L26_1 n s1 z2 false))
theorem T26 (n:Nat):∀⦃s1 z2 r1⦄,F26 n s1 z2=some r1->
    Trip Tryz.prog inv 26 [.c (.ptr (.ext 0) 0),.d (.str s1)] [.cells [.d (.int .i64 z2)]] (.t []) [.cells [.d (.int .i64 r1)]] []:=by
 intro s1 z2 r1 h
 unfold F26 at h
 refine Trip.of tab_ok tab_one fol Tryz.func26 rfl (by kernel_rfl) rfl rfl rfl (fun M hM hI=>?_)
 try cbv
 refine seq_go ?_
 try cbv
 refine seq_join (T:=Nat×Bool) (fun t=>⟨[sE 0 0,sS 1 s1,sB 18 t.2],[(.ext 0,.cells [.d (.int .i64 z2)])],480⟩) (fun t=>t.1<=n/\L26_1 t.1 s1 z2 t.2=some r1) ?_ ?_
 ·try cbv
  refine splitL (fun e=>?_) (fun e=>?_)
  ·replace h:=ite_t e h
   clear e
   try cbv
   exact join_next (n,true) [0,1,18] [.ext 0] 480 ⟨by omega,h⟩ (by cbv)
  replace h:=ite_f (Int.not_lt.2 e) h
  clear e
  try cbv
  replace h:=szF_inv M h
  obtain⟨z3,hz,h⟩:=h
  refine⟨z3,hz,?_⟩
  clear hz
  try cbv
  replace h:=letF_inv h
  obtain⟨z4,hz,h⟩:=h
  refine⟨z4,hz,?_⟩
  clear hz
  try cbv
  refine splitL (fun e=>?_) (fun e=>?_)
  ·replace h:=ite_t e h
   clear e
   try cbv
   exact join_next (n,true) [0,1,18] [.ext 0] 480 ⟨by omega,h⟩ (by cbv)
  replace h:=ite_f (Int.not_lt.2 e) h
  clear e
  try cbv
  exact join_next (n,false) [0,1,18] [.ext 0] 480 ⟨by omega,h⟩ (by cbv)
 clear h
 rintro⟨m1,b5⟩ ⟨hm1,h⟩
 replace hm1:m1<=n:=hm1
 obtain _ | m1:=m1
 ·replace h:L26_1 0 s1 z2 b5=some r1:=h
  rw[L26_1]at h
  cases h
 replace h:L26_1 (m1+1) s1 z2 b5=some r1:=h
 rw[L26_1]at h
 try cbv
 cases b5
 rotate_left
 ·replace h:=itT h
  try cbv
  refine seq_go ?_
  try cbv
  obtain rfl:=Option.some.inj h
  refine fin_go ?_
  try cbv
  exact⟨[],rfl,rfl,⟨rfl,trivial⟩,trivial,trivial⟩
 replace h:=itF h
 try cbv
 replace h:=letF_inv h
 obtain⟨z6,hz,h⟩:=h
 refine⟨z6,hz,?_⟩
 clear hz
 try cbv
 replace h:=szF_inv M h
 obtain⟨z7,hz,h⟩:=h
 refine⟨z7,hz,?_⟩
 clear hz
 try cbv
 replace h:=letF_inv h
 obtain⟨z8,hz,h⟩:=h
 refine⟨z8,hz,?_⟩
 clear hz
 try cbv
 obtain rfl:=Option.some.inj h
 refine fin_go ?_
 try cbv
 exact⟨[],rfl,rfl,⟨rfl,trivial⟩,trivial,trivial⟩
mutual
def L28_1:Nat->LD->Int->Int->Option (Int)
 | 0,_,_,_=>none
 | n+1,l3,z6,z7=>
  lenF l3 fun z8=>(if z6<z8 then (if (0:Int)<=z7 then L28_2 n l3 z6 z7 true else L28_2 n l3 z6 z7 false)else L28_2 n l3 z6 z7 false)
def L28_2:Nat->LD->Int->Int->Bool->Option (Int)
 | 0,_,_,_,_=>none
 | n+1,l3,z6,z7,b9=>
  (if b9=true then getF l3 z6 fun x10=>ds_t33 x10 fun z11 s12 l13=>bO1 (F28 n z11 s12 l13 z7) fun z14=>letF (IntKind.wrap .i64 (z6+1)) fun z15=>L28_1 n l3 z15 z14 else some z7)
def F28:Nat->Int->BA->LD->Int->Option (Int)
 | 0,_,_,_,_=>none
 | n+1,z1,s2,l3,z4=>
  bO1 (F26 n s2 z4) fun z5=>L28_1 n l3 (0:Int) z5
end
theorem T28 (n:Nat):∀⦃z1 s2 l3 z4 r1⦄,F28 n z1 s2 l3 z4=some r1->
    Trip Tryz.prog inv 28 [.c (.ptr (.ext 0) 0),.d (.agg [.int .u8 z1,.str s2,.list true 3 l3])] [.cells [.d (.int .i64 z4)]] (.t []) [.cells [.d (.int .i64 r1)]] []:=by
 induction n using Nat.strongRecOn with | _ n ih=>
 obtain _ | n:=n
 ·intro z1 s2 l3 z4 r1 h
  cases (show (none:Option _)=some _ from h)
 intro z1 s2 l3 z4 r1 h
 rw[F28]at h
 refine Trip.of tab_ok tab_one fol Tryz.func28 rfl (by kernel_rfl) rfl rfl rfl (fun M hM hI=>?_)
 try cbv
 refine seq_go ?_
 try cbv
 refine seq_go ?_
 try cbv
 replace h:=bO1_inv h
 obtain⟨z5,hr,h⟩:=h
 refine call_go rfl rfl ?_
 try cbv
 refine call_with hM hI [.ext 0] (T26 _ hr) rfl (by simp) ⟨rfl,trivial⟩ ⟨trivial,trivial⟩ (by simp) ?_
 clear hr
 try cbv
 refine seq_go ?_
 try cbv
 refine loop_inv (T:=Nat×Int×Int) [0,3,4] [.ext 0,.loc 0] 192 (fun t=>⟨[sE 0 0,sL 3 0,sI 4 t.2.1],[(.ext 0,.cells [.d (.int .i64 t.2.2)]),(.loc 0,.cells [.d (.int .u8 z1),.d (.str s2),.d (.list true 3 l3)])],192⟩)
   (fun t=>t.1<=n/\L28_1 t.1 l3 t.2.1 t.2.2=some r1) (fun t=>t.1) (n,((0:Int),z5)) ⟨Nat.le_refl _,h⟩ (by cbv) ?_
 clear h
 rintro⟨m1,z6,z7⟩ ⟨hm1,h⟩
 replace hm1:m1<=n:=hm1
 obtain _ | m1:=m1
 ·replace h:L28_1 0 l3 z6 z7=some r1:=h
  rw[L28_1]at h
  cases h
 replace h:L28_1 (m1+1) l3 z6 z7=some r1:=h
 rw[L28_1]at h
 try cbv
 refine seq_go ?_
 try cbv
 refine seq_join (T:=Nat×Bool) (fun t=>⟨[sE 0 0,sL 3 0,sI 4 z6,sB 20 t.2],[(.ext 0,.cells [.d (.int .i64 z7)]),(.loc 0,.cells [.d (.int .u8 z1),.d (.str s2),.d (.list true 3 l3)])],576⟩) (fun t=>t.1<=m1/\L28_2 t.1 l3 z6 z7 t.2=some r1) ?_ ?_
 ·try cbv
  replace h:=lenF_inv M h
  obtain⟨z8,hz,h⟩:=h
  refine⟨z8,hz,?_⟩
  clear hz
  try cbv
  refine splitL (fun e=>?_) (fun e=>?_)
  ·replace h:=ite_t e h
   clear e
   try cbv
   refine splitLe (fun e=>?_) (fun e=>?_)
   ·replace h:=ite_t e h
    clear e
    try cbv
    exact join_next (m1,true) [0,3,4,20] [.ext 0,.loc 0] 576 ⟨by omega,h⟩ (by cbv)
   replace h:=ite_f (Int.not_le.2 e) h
   clear e
   try cbv
   exact join_next (m1,false) [0,3,4,20] [.ext 0,.loc 0] 576 ⟨by omega,h⟩ (by cbv)
  replace h:=ite_f (Int.not_lt.2 e) h
  clear e
  try cbv
  exact join_next (m1,false) [0,3,4,20] [.ext 0,.loc 0] 576 ⟨by omega,h⟩ (by cbv)
 clear h
 rintro⟨m2,b9⟩ ⟨hm2,h⟩
 replace hm2:m2<=m1:=hm2
 obtain _ | m2:=m2
 ·replace h:L28_2 0 l3 z6 z7 b9=some r1:=h
  rw[L28_2]at h
  cases h
 replace h:L28_2 (m2+1) l3 z6 z7 b9=some r1:=h
 rw[L28_2]at h
 try cbv
 cases b9
 ·replace h:=itF h
  try cbv
  obtain rfl:=Option.some.inj h
  refine fin_go ?_
  try cbv
  exact⟨[],rfl,rfl,⟨rfl,trivial⟩,trivial,trivial⟩
 replace h:=itT h
 try cbv
 refine seq_go ?_
 try cbv
 replace h:=getF_inv h
 obtain⟨x10,⟨hx0,hx⟩,h⟩:=h
 refine⟨x10,hx0,hx,?_⟩
 clear hx0 hx
 replace h:=ds_t33_inv h
 obtain⟨z11,s12,l13,rfl,h⟩:=h
 try cbv
 replace h:=bO1_inv h
 obtain⟨z14,hr,h⟩:=h
 refine call_go rfl rfl ?_
 try cbv
 refine call_with hM hI [.ext 0] ((ih _ (by omega)) hr) rfl (by simp) ⟨rfl,trivial⟩ ⟨trivial,trivial⟩ (by simp) ?_
 clear hr
 try cbv
 replace h:=letF_inv h
 obtain⟨z15,hz,h⟩:=h
 refine⟨z15,hz,?_⟩
 clear hz
 try cbv
 exact loop_next (m2,(z15,z14)) [0,3,4] [.ext 0,.loc 0] 192 ⟨by omega,h⟩ (Nat.lt_succ_of_le (by omega)) (by cbv)
def F18 (n:Nat) (z1:Int) (s2:BA) (l3:LD):Option (Bool):=
 bO1 (F28 n z1 s2 l3 (20000:Int)) fun z4=>(if z4<(0:Int)then some true else some false)
theorem T18 (n:Nat):∀⦃z1 s2 l3 r1⦄,F18 n z1 s2 l3=some r1->
    Trip Tryz.prog inv 18 [.d (.agg [.int .u8 z1,.str s2,.list true 3 l3])] [] (.v (.d (.bool r1))) [] []:=by
 intro z1 s2 l3 r1 h
 unfold F18 at h
 refine Trip.of tab_ok tab_one fol Tryz.func18 rfl (by kernel_rfl) rfl rfl rfl (fun M hM hI=>?_)
 try cbv
 refine seq_go ?_
 try cbv
 refine seq_go ?_
 try cbv
 refine seq_go ?_
 try cbv
 replace h:=bO1_inv h
 obtain⟨z4,hr,h⟩:=h
 refine call_go rfl rfl ?_
 try cbv
 refine call_with hM hI [.loc 96] (T28 _ hr) rfl (by simp) ⟨rfl,trivial⟩ ⟨trivial,trivial⟩ (by simp) ?_
 clear hr
 try cbv
 refine seq_go ?_
 try cbv
 refine splitL (fun e=>?_) (fun e=>?_)
 ·replace h:=ite_t e h
  clear e
  try cbv
  obtain rfl:=Option.some.inj h
  refine fin_go ?_
  try cbv
  exact⟨[],by trivial⟩
 replace h:=ite_f (Int.not_lt.2 e) h
 clear e
 try cbv
 obtain rfl:=Option.some.inj h
 refine fin_go ?_
 try cbv
 exact⟨[],by trivial⟩
mutual
def L66_1:Nat->LD->Int->Int->Option (Int)
 | 0,_,_,_=>none
 | n+1,l1,z4,z5=>
  lenF l1 fun z6=>(if z4<z6 then (if (0:Int)<=z5 then L66_2 n l1 z4 z5 true else L66_2 n l1 z4 z5 false)else L66_2 n l1 z4 z5 false)
def L66_2:Nat->LD->Int->Int->Bool->Option (Int)
 | 0,_,_,_,_=>none
 | n+1,l1,z4,z5,b7=>
  (if b7=true then getF l1 z4 fun x8=>ds_str x8 fun s9=>bO1 (F26 n s9 z5) fun z10=>letF (IntKind.wrap .i64 (z4+1)) fun z11=>L66_1 n l1 z11 z10 else some z5)
end
def F66 (n:Nat) (l1:LD) (z2:Int):Option (Int):=
 letF (IntKind.wrap .i64 (z2 - 5)) fun z3=>L66_1 n l1 (0:Int) z3
theorem T66 (n:Nat):∀⦃l1 z2 r1⦄,F66 n l1 z2=some r1->
    Trip Tryz.prog inv 66 [.c (.ptr (.ext 0) 0),.d (.list false 1 l1)] [.cells [.d (.int .i64 z2)]] (.t []) [.cells [.d (.int .i64 r1)]] []:=by
 intro l1 z2 r1 h
 unfold F66 at h
 refine Trip.of tab_ok tab_one fol Tryz.func66 rfl (by kernel_rfl) rfl rfl rfl (fun M hM hI=>?_)
 try cbv
 refine seq_go ?_
 try cbv
 replace h:=letF_inv h
 obtain⟨z3,hz,h⟩:=h
 refine⟨z3,hz,?_⟩
 clear hz
 try cbv
 refine seq_go ?_
 try cbv
 refine loop_inv (T:=Nat×Int×Int) [0,1,4] [.ext 0] 320 (fun t=>⟨[sE 0 0,sF 1 1 l1,sI 4 t.2.1],[(.ext 0,.cells [.d (.int .i64 t.2.2)])],320⟩)
   (fun t=>t.1<=n/\L66_1 t.1 l1 t.2.1 t.2.2=some r1) (fun t=>t.1) (n,((0:Int),z3)) ⟨Nat.le_refl _,h⟩ (by cbv) ?_
 clear h
 rintro⟨m1,z4,z5⟩ ⟨hm1,h⟩
 replace hm1:m1<=n:=hm1
 obtain _ | m1:=m1
 ·replace h:L66_1 0 l1 z4 z5=some r1:=h
  rw[L66_1]at h
  cases h
 replace h:L66_1 (m1+1) l1 z4 z5=some r1:=h
 rw[L66_1]at h
 try cbv
 refine seq_go ?_
 try cbv
 refine seq_join (T:=Nat×Bool) (fun t=>⟨[sE 0 0,sF 1 1 l1,sI 4 z4,sB 23 t.2],[(.ext 0,.cells [.d (.int .i64 z5)])],672⟩) (fun t=>t.1<=m1/\L66_2 t.1 l1 z4 z5 t.2=some r1) ?_ ?_
 ·try cbv
  replace h:=lenF_inv M h
  obtain⟨z6,hz,h⟩:=h
  refine⟨z6,hz,?_⟩
  clear hz
  try cbv
  refine splitL (fun e=>?_) (fun e=>?_)
  ·replace h:=ite_t e h
   clear e
   try cbv
   refine splitLe (fun e=>?_) (fun e=>?_)
   ·replace h:=ite_t e h
    clear e
    try cbv
    exact join_next (m1,true) [0,1,4,23] [.ext 0] 672 ⟨by omega,h⟩ (by cbv)
   replace h:=ite_f (Int.not_le.2 e) h
   clear e
   try cbv
   exact join_next (m1,false) [0,1,4,23] [.ext 0] 672 ⟨by omega,h⟩ (by cbv)
  replace h:=ite_f (Int.not_lt.2 e) h
  clear e
  try cbv
  exact join_next (m1,false) [0,1,4,23] [.ext 0] 672 ⟨by omega,h⟩ (by cbv)
 clear h
 rintro⟨m2,b7⟩ ⟨hm2,h⟩
 replace hm2:m2<=m1:=hm2
 obtain _ | m2:=m2
 ·replace h:L66_2 0 l1 z4 z5 b7=some r1:=h
  rw[L66_2]at h
  cases h
 replace h:L66_2 (m2+1) l1 z4 z5 b7=some r1:=h
 rw[L66_2]at h
 try cbv
 cases b7
 ·replace h:=itF h
  try cbv
  obtain rfl:=Option.some.inj h
  refine fin_go ?_
  try cbv
  exact⟨[],rfl,rfl,⟨rfl,trivial⟩,trivial,trivial⟩
 replace h:=itT h
 try cbv
 refine seq_go ?_
 try cbv
 replace h:=getF_inv h
 obtain⟨x8,⟨hx0,hx⟩,h⟩:=h
 refine⟨x8,hx0,hx,?_⟩
 clear hx0 hx
 replace h:=ds_str_inv h
 obtain⟨s9,rfl,h⟩:=h
 try cbv
 replace h:=bO1_inv h
 obtain⟨z10,hr,h⟩:=h
 refine call_go rfl rfl ?_
 try cbv
 refine call_with hM hI [.ext 0] (T26 _ hr) rfl (by simp) ⟨rfl,trivial⟩ ⟨trivial,trivial⟩ (by simp) ?_
 clear hr
 try cbv
 replace h:=letF_inv h
 obtain⟨z11,hz,h⟩:=h
 refine⟨z11,hz,?_⟩
 clear hz
 try cbv
 exact loop_next (m2,(z11,z10)) [0,1,4] [.ext 0] 320 ⟨by omega,h⟩ (Nat.lt_succ_of_le (by omega)) (by cbv)
def F67 (n:Nat) (s1:BA) (l2:LD) (z3:Int):Option (Int):=
 bO1 (F26 n s1 z3) fun z4=>bO1 (F66 n l2 z4) fun z5=>some z5
theorem T67 (n:Nat):∀⦃s1 l2 z3 r1⦄,F67 n s1 l2 z3=some r1->
    Trip Tryz.prog inv 67 [.c (.ptr (.ext 0) 0),.d (.agg [.str s1,.list false 1 l2])] [.cells [.d (.int .i64 z3)]] (.t []) [.cells [.d (.int .i64 r1)]] []:=by
 intro s1 l2 z3 r1 h
 unfold F67 at h
 refine Trip.of tab_ok tab_one fol Tryz.func67 rfl (by kernel_rfl) rfl rfl rfl (fun M hM hI=>?_)
 try cbv
 refine seq_go ?_
 try cbv
 refine seq_go ?_
 try cbv
 replace h:=bO1_inv h
 obtain⟨z4,hr,h⟩:=h
 refine call_go rfl rfl ?_
 try cbv
 refine call_with hM hI [.ext 0] (T26 _ hr) rfl (by simp) ⟨rfl,trivial⟩ ⟨trivial,trivial⟩ (by simp) ?_
 clear hr
 try cbv
 replace h:=bO1_inv h
 obtain⟨z5,hr,h⟩:=h
 refine call_go rfl rfl ?_
 try cbv
 refine call_with hM hI [.ext 0] (T66 _ hr) rfl (by simp) ⟨rfl,trivial⟩ ⟨trivial,trivial⟩ (by simp) ?_
 clear hr
 try cbv
 obtain rfl:=Option.some.inj h
 refine fin_go ?_
 try cbv
 exact⟨[],rfl,rfl,⟨rfl,trivial⟩,trivial,trivial⟩
mutual
def L30_1:Nat->LD->Int->Int->Option (Int)
 | 0,_,_,_=>none
 | n+1,l7,z13,z14=>
  lenF l7 fun z15=>(if z13<z15 then (if (0:Int)<=z14 then L30_2 n l7 z13 z14 true else L30_2 n l7 z13 z14 false)else L30_2 n l7 z13 z14 false)
def L30_2:Nat->LD->Int->Int->Bool->Option (Int)
 | 0,_,_,_,_=>none
 | n+1,l7,z13,z14,b16=>
  (if b16=true then getF l7 z13 fun x17=>ds_t39 x17 fun z18 z19 s20 s21 s22 l23 l24 z25=>bO1 (F30 n z18 z19 s20 s21 s22 l23 l24 z25 z14) fun z26=>letF (IntKind.wrap .i64 (z13+1)) fun z27=>L30_1 n l7 z27 z26 else some z14)
def F30:Nat->Int->Int->BA->BA->BA->LD->LD->Int->Int->Option (Int)
 | 0,_,_,_,_,_,_,_,_,_=>none
 | n+1,z1,z2,s3,s4,s5,l6,l7,z8,z9=>
  bO1 (F26 n s3 z9) fun z10=>bO1 (F26 n s4 z10) fun z11=>bO1 (F67 n s5 l6 z11) fun z12=>L30_1 n l7 (0:Int) z12
end
theorem T30 (n:Nat):∀⦃z1 z2 s3 s4 s5 l6 l7 z8 z9 r1⦄,F30 n z1 z2 s3 s4 s5 l6 l7 z8 z9=some r1->
    Trip Tryz.prog inv 30 [.c (.ptr (.ext 0) 0),.d (.agg [.int .u8 z1,.int .i64 z2,.str s3,.str s4,.str s5,.list false 1 l6,.list true 8 l7,.int .i64 z8])] [.cells [.d (.int .i64 z9)]] (.t []) [.cells [.d (.int .i64 r1)]] []:=by
 induction n using Nat.strongRecOn with | _ n ih=>
 obtain _ | n:=n
 ·intro z1 z2 s3 s4 s5 l6 l7 z8 z9 r1 h
  cases (show (none:Option _)=some _ from h)
 intro z1 z2 s3 s4 s5 l6 l7 z8 z9 r1 h
 rw[F30]at h
 refine Trip.of tab_ok tab_one fol Tryz.func30 rfl (by kernel_rfl) rfl rfl rfl (fun M hM hI=>?_)
 try cbv
 refine seq_go ?_
 try cbv
 refine seq_go ?_
 try cbv
 replace h:=bO1_inv h
 obtain⟨z10,hr,h⟩:=h
 refine call_go rfl rfl ?_
 try cbv
 refine call_with hM hI [.ext 0] (T26 _ hr) rfl (by simp) ⟨rfl,trivial⟩ ⟨trivial,trivial⟩ (by simp) ?_
 clear hr
 try cbv
 refine seq_go ?_
 try cbv
 replace h:=bO1_inv h
 obtain⟨z11,hr,h⟩:=h
 refine call_go rfl rfl ?_
 try cbv
 refine call_with hM hI [.ext 0] (T26 _ hr) rfl (by simp) ⟨rfl,trivial⟩ ⟨trivial,trivial⟩ (by simp) ?_
 clear hr
 try cbv
 refine seq_go ?_
 try cbv
 replace h:=bO1_inv h
 obtain⟨z12,hr,h⟩:=h
 refine call_go rfl rfl ?_
 try cbv
 refine call_with hM hI [.ext 0] (T67 _ hr) rfl (by simp) ⟨rfl,trivial⟩ ⟨trivial,trivial⟩ (by simp) ?_
 clear hr
 try cbv
 refine seq_go ?_
 try cbv
 refine loop_inv (T:=Nat×Int×Int) [0,3,4] [.ext 0,.loc 0] 448 (fun t=>⟨[sE 0 0,sL 3 0,sI 4 t.2.1],[(.ext 0,.cells [.d (.int .i64 t.2.2)]),(.loc 0,.cells [.d (.int .u8 z1),.d (.int .i64 z2),.d (.str s3),.d (.str s4),.d (.str s5),.d (.list false 1 l6),.d (.list true 8 l7),.d (.int .i64 z8)])],448⟩)
   (fun t=>t.1<=n/\L30_1 t.1 l7 t.2.1 t.2.2=some r1) (fun t=>t.1) (n,((0:Int),z12)) ⟨Nat.le_refl _,h⟩ (by cbv) ?_
 clear h
 rintro⟨m1,z13,z14⟩ ⟨hm1,h⟩
 replace hm1:m1<=n:=hm1
 obtain _ | m1:=m1
 ·replace h:L30_1 0 l7 z13 z14=some r1:=h
  rw[L30_1]at h
  cases h
 replace h:L30_1 (m1+1) l7 z13 z14=some r1:=h
 rw[L30_1]at h
 try cbv
 refine seq_go ?_
 try cbv
 refine seq_join (T:=Nat×Bool) (fun t=>⟨[sE 0 0,sL 3 0,sI 4 z13,sB 28 t.2],[(.ext 0,.cells [.d (.int .i64 z14)]),(.loc 0,.cells [.d (.int .u8 z1),.d (.int .i64 z2),.d (.str s3),.d (.str s4),.d (.str s5),.d (.list false 1 l6),.d (.list true 8 l7),.d (.int .i64 z8)])],832⟩) (fun t=>t.1<=m1/\L30_2 t.1 l7 z13 z14 t.2=some r1) ?_ ?_
 ·try cbv
  replace h:=lenF_inv M h
  obtain⟨z15,hz,h⟩:=h
  refine⟨z15,hz,?_⟩
  clear hz
  try cbv
  refine splitL (fun e=>?_) (fun e=>?_)
  ·replace h:=ite_t e h
   clear e
   try cbv
   refine splitLe (fun e=>?_) (fun e=>?_)
   ·replace h:=ite_t e h
    clear e
    try cbv
    exact join_next (m1,true) [0,3,4,28] [.ext 0,.loc 0] 832 ⟨by omega,h⟩ (by cbv)
   replace h:=ite_f (Int.not_le.2 e) h
   clear e
   try cbv
   exact join_next (m1,false) [0,3,4,28] [.ext 0,.loc 0] 832 ⟨by omega,h⟩ (by cbv)
  replace h:=ite_f (Int.not_lt.2 e) h
  clear e
  try cbv
  exact join_next (m1,false) [0,3,4,28] [.ext 0,.loc 0] 832 ⟨by omega,h⟩ (by cbv)
 clear h
 rintro⟨m2,b16⟩ ⟨hm2,h⟩
 replace hm2:m2<=m1:=hm2
 obtain _ | m2:=m2
 ·replace h:L30_2 0 l7 z13 z14 b16=some r1:=h
  rw[L30_2]at h
  cases h
 replace h:L30_2 (m2+1) l7 z13 z14 b16=some r1:=h
 rw[L30_2]at h
 try cbv
 cases b16
 ·replace h:=itF h
  try cbv
  obtain rfl:=Option.some.inj h
  refine fin_go ?_
  try cbv
  exact⟨[],rfl,rfl,⟨rfl,trivial⟩,trivial,trivial⟩
 replace h:=itT h
 try cbv
 refine seq_go ?_
 try cbv
 replace h:=getF_inv h
 obtain⟨x17,⟨hx0,hx⟩,h⟩:=h
 refine⟨x17,hx0,hx,?_⟩
 clear hx0 hx
 replace h:=ds_t39_inv h
 obtain⟨z18,z19,s20,s21,s22,l23,l24,z25,rfl,h⟩:=h
 try cbv
 replace h:=bO1_inv h
 obtain⟨z26,hr,h⟩:=h
 refine call_go rfl rfl ?_
 try cbv
 refine call_with hM hI [.ext 0] ((ih _ (by omega)) hr) rfl (by simp) ⟨rfl,trivial⟩ ⟨trivial,trivial⟩ (by simp) ?_
 clear hr
 try cbv
 replace h:=letF_inv h
 obtain⟨z27,hz,h⟩:=h
 refine⟨z27,hz,?_⟩
 clear hz
 try cbv
 exact loop_next (m2,(z27,z26)) [0,3,4] [.ext 0,.loc 0] 448 ⟨by omega,h⟩ (Nat.lt_succ_of_le (by omega)) (by cbv)
def F19 (n:Nat) (z1:Int) (z2:Int) (s3:BA) (s4:BA) (s5:BA) (l6:LD) (l7:LD) (z8:Int):Option (Bool):=
 bO1 (F30 n z1 z2 s3 s4 s5 l6 l7 z8 (20000:Int)) fun z9=>(if z9<(0:Int)then some true else some false)
theorem T19 (n:Nat):∀⦃z1 z2 s3 s4 s5 l6 l7 z8 r1⦄,F19 n z1 z2 s3 s4 s5 l6 l7 z8=some r1->
    Trip Tryz.prog inv 19 [.d (.agg [.int .u8 z1,.int .i64 z2,.str s3,.str s4,.str s5,.list false 1 l6,.list true 8 l7,.int .i64 z8])] [] (.v (.d (.bool r1))) [] []:=by
 intro z1 z2 s3 s4 s5 l6 l7 z8 r1 h
 unfold F19 at h
 refine Trip.of tab_ok tab_one fol Tryz.func19 rfl (by kernel_rfl) rfl rfl rfl (fun M hM hI=>?_)
 try cbv
 refine seq_go ?_
 try cbv
 refine seq_go ?_
 try cbv
 refine seq_go ?_
 try cbv
 replace h:=bO1_inv h
 obtain⟨z9,hr,h⟩:=h
 refine call_go rfl rfl ?_
 try cbv
 refine call_with hM hI [.loc 96] (T30 _ hr) rfl (by simp) ⟨rfl,trivial⟩ ⟨trivial,trivial⟩ (by simp) ?_
 clear hr
 try cbv
 refine seq_go ?_
 try cbv
 refine splitL (fun e=>?_) (fun e=>?_)
 ·replace h:=ite_t e h
  clear e
  try cbv
  obtain rfl:=Option.some.inj h
  refine fin_go ?_
  try cbv
  exact⟨[],by trivial⟩
 replace h:=ite_f (Int.not_lt.2 e) h
 clear e
 try cbv
 obtain rfl:=Option.some.inj h
 refine fin_go ?_
 try cbv
 exact⟨[],by trivial⟩
mutual
def L80_1:Nat->Int->BA->LD->Int->Bool->Option (Bool)
 | 0,_,_,_,_,_=>none
 | n+1,z1,s2,l3,z4,b5=>
  (if b5=true then some false else (if z1=(1:Int)then L80_2 n z1 s2 l3 z4 true else L80_2 n z1 s2 l3 z4 false))
def L80_2:Nat->Int->BA->LD->Int->Bool->Option (Bool)
 | 0,_,_,_,_,_=>none
 | n+1,z1,s2,l3,z4,b6=>
  (if b6=true then L80_5 n z1 s2 l3 z4 true else (if z1=(2:Int)then L80_3 n z1 s2 l3 z4 true else L80_3 n z1 s2 l3 z4 false))
def L80_3:Nat->Int->BA->LD->Int->Bool->Option (Bool)
 | 0,_,_,_,_,_=>none
 | n+1,z1,s2,l3,z4,b7=>
  (if b7=true then L80_5 n z1 s2 l3 z4 true else (if z1=(3:Int)then L80_4 n z1 s2 l3 z4 true else L80_4 n z1 s2 l3 z4 false))
def L80_4:Nat->Int->BA->LD->Int->Bool->Option (Bool)
 | 0,_,_,_,_,_=>none
 | n+1,z1,s2,l3,z4,b8=>
  (if b8=true then L80_5 n z1 s2 l3 z4 true else (if z1=(10:Int)then L80_5 n z1 s2 l3 z4 true else L80_5 n z1 s2 l3 z4 false))
def L80_5:Nat->Int->BA->LD->Int->Bool->Option (Bool)
 | 0,_,_,_,_,_=>none
 | n+1,z1,s2,l3,z4,b9=>
  (if b9=true then (if s2=ByteArray.empty then lenF l3 fun z10=>(if z10=(0:Int)then some true else some false)else some false)else (if z1=(4:Int)then L80_6 n s2 l3 z4 true else L80_6 n s2 l3 z4 false))
def L80_6:Nat->BA->LD->Int->Bool->Option (Bool)
 | 0,_,_,_,_=>none
 | n+1,s2,l3,z4,b11=>
  (if b11=true then bO1 (F78 n s2) fun b12=>(if b12=true then lenF l3 fun z13=>(if z13=(0:Int)then some true else some false)else some false)else (if s2=ByteArray.empty then lenF l3 fun z14=>(if z14=(1:Int)then getF l3 0 fun x15=>ds_t33 x15 fun z16 s17 l18=>letF (IntKind.wrap .i64 (z4 - 1)) fun z19=>bO1 (F80 n z16 s17 l18 z19) fun b20=>some b20 else some false)else some false))
def F80:Nat->Int->BA->LD->Int->Option (Bool)
 | 0,_,_,_,_=>none
 | n+1,z1,s2,l3,z4=>
  (if z4<(1:Int)then L80_1 n z1 s2 l3 z4 true else (if z1<(1:Int)then L80_1 n z1 s2 l3 z4 true else (if (14:Int)<z1 then L80_1 n z1 s2 l3 z4 true else L80_1 n z1 s2 l3 z4 false)))
end
end Go.Proofs.YtjmofeakajdbiaaGreatDoor
end
set_option linter.unusedVariables false
noncomputable section
namespace Go.Proofs.YtjmofeakajdbiaaGreatDoor
open Go Go.AM
theorem llen3 {l:List D}(h:l.length=3):∃x0 x1 x2,l=[x0,x1,x2]:=by
 match l,h with
 | [x0,x1,x2],_=>exact⟨x0,x1,x2,rfl⟩
theorem llen8 {l:List D}(h:l.length=8):∃x0 x1 x2 x3 x4 x5 x6 x7,l=[x0,x1,x2,x3,x4,x5,x6,x7]:=by
 match l,h with
 | [x0,x1,x2,x3,x4,x5,x6,x7],_=>exact⟨x0,x1,x2,x3,x4,x5,x6,x7,rfl⟩
theorem rs9 {x:D}(h:RowS tab 9 x):∃a0,x= .str a0∧a0.size≤maxLen:=by
 have hs:=h.flat1 (y:=tyD tab 9) (by kernel_rfl) rfl
 have hl:=hs.flat 9 9 [9] [x] (by kernel_rfl)
 obtain⟨a0,rfl,w0⟩:=(hl.2 0 x 9 rfl rfl).strS (x:=tyD tab 9) (by kernel_rfl) rfl
 exact⟨_,rfl,w0⟩
theorem rs33 {x:D}(h:RowS tab 33 x):∃a0 a1 a2,x= .agg [.int .u8 a0,.str a1,.list true 3 a2]∧(Lit.int .u8 a0).wf=true∧a1.size≤maxLen∧ListS tab 33 a2:=by
 obtain⟨cs,rfl,hs⟩:=h.agg (y:=tyD tab 33) (by kernel_rfl) rfl
 have hl:=hs.flat 9 33 [5,9,31] cs (by kernel_rfl)
 obtain⟨b0,b1,b2,rfl⟩:=llen3 hl.1
 obtain⟨a0,rfl,w0⟩:=(hl.2 0 b0 5 rfl rfl).intS (x:=tyD tab 5) (by kernel_rfl) rfl
 obtain⟨a1,rfl,w1⟩:=(hl.2 1 b1 9 rfl rfl).strS (x:=tyD tab 9) (by kernel_rfl) rfl
 obtain⟨a2,e2,w2⟩:=(hl.2 2 b2 31 rfl rfl).listS (x:=tyD tab 31) (y:=tyD tab 33) (by kernel_rfl) rfl (by kernel_rfl)
 obtain rfl:b2= .list true 3 a2:=e2
 exact⟨_,_,_,rfl,w0,w1,w2⟩
theorem rs39 {x:D}(h:RowS tab 39 x):∃a0 a1 a2 a3 a4 a5 a6 a7,x= .agg [.int .u8 a0,.int .i64 a1,.str a2,.str a3,.str a4,.list false 1 a5,.list true 8 a6,.int .i64 a7]∧(Lit.int .u8 a0).wf=true∧(Lit.int .i64 a1).wf=true∧a2.size≤maxLen∧a3.size≤maxLen∧a4.size≤maxLen∧ListS tab 9 a5∧ListS tab 39 a6∧(Lit.int .i64 a7).wf=true:=by
 obtain⟨cs,rfl,hs⟩:=h.agg (y:=tyD tab 39) (by kernel_rfl) rfl
 have hl:=hs.flat 9 39 [5,2,9,9,9,34,37,3] cs (by kernel_rfl)
 obtain⟨b0,b1,b2,b3,b4,b5,b6,b7,rfl⟩:=llen8 hl.1
 obtain⟨a0,rfl,w0⟩:=(hl.2 0 b0 5 rfl rfl).intS (x:=tyD tab 5) (by kernel_rfl) rfl
 obtain⟨a1,rfl,w1⟩:=(hl.2 1 b1 2 rfl rfl).intS (x:=tyD tab 2) (by kernel_rfl) rfl
 obtain⟨a2,rfl,w2⟩:=(hl.2 2 b2 9 rfl rfl).strS (x:=tyD tab 9) (by kernel_rfl) rfl
 obtain⟨a3,rfl,w3⟩:=(hl.2 3 b3 9 rfl rfl).strS (x:=tyD tab 9) (by kernel_rfl) rfl
 obtain⟨a4,rfl,w4⟩:=(hl.2 4 b4 9 rfl rfl).strS (x:=tyD tab 9) (by kernel_rfl) rfl
 obtain⟨a5,e5,w5⟩:=(hl.2 5 b5 34 rfl rfl).listS (x:=tyD tab 34) (y:=tyD tab 9) (by kernel_rfl) rfl (by kernel_rfl)
 obtain rfl:b5= .list false 1 a5:=e5
 obtain⟨a6,e6,w6⟩:=(hl.2 6 b6 37 rfl rfl).listS (x:=tyD tab 37) (y:=tyD tab 39) (by kernel_rfl) rfl (by kernel_rfl)
 obtain rfl:b6= .list true 8 a6:=e6
 obtain⟨a7,rfl,w7⟩:=(hl.2 7 b7 3 rfl rfl).intS (x:=tyD tab 3) (by kernel_rfl) rfl
 exact⟨_,_,_,_,_,_,_,_,rfl,w0,w1,w2,w3,w4,w5,w6,w7⟩
end Go.Proofs.YtjmofeakajdbiaaGreatDoor
end
set_option linter.unusedVariables false
noncomputable section
namespace Go.Proofs.YtjmofeakajdbiaaGreatDoor
open Go Go.AM
abbrev leafT (z:Int):Prop:=z=1∨z=2∨z=3∨z=10
theorem pre37 {z1:Int}{s2:ByteArray}(hs:s2.size≤maxLen) {l:List D}{z4:Int}{r:Bool}
  (h1:leafT z1→Ev (fun n=>L55_7 n z1 l z4 (0:Int) (decide (s2=ByteArray.empty))) r) (h2:z1=4→Ev (fun n=>L55_7 n z1 l z4 (0:Int) (nm 65 90 s2)) r)
  (h3:¬leafT z1→z1≠4→Ev (fun n=>L55_7 n z1 l z4 (1:Int) (decide (s2=ByteArray.empty))) r):Ev (fun n=>F55 n z1 s2 l z4) r:=by
 have go:∀b,b=decide (s2=ByteArray.empty)→Ev (fun n=>L55_1 n z1 s2 l z4 b) r:=by
  rintro b rfl
  have five:leafT z1→Ev (fun n=>L55_5 n z1 s2 l z4 (decide (s2=ByteArray.empty)) true) r:=fun c=>.succ (by simp only[L55_5,if_true];exact h1 c)
  refine .succ ?_
  by_cases c1:z1=1
  ·simp only[L55_1,if_pos c1]
   exact .succ (by simp only[L55_2,if_true];exact five (.inl c1))
  simp only[L55_1,if_neg c1]
  refine .succ ?_
  by_cases c2:z1=2
  ·simp only[L55_2,Bool.false_eq_true,if_false,if_pos c2]
   exact .succ (by simp only[L55_3,if_true];exact five (.inr (.inl c2)))
  simp only[L55_2,Bool.false_eq_true,if_false,if_neg c2]
  refine .succ ?_
  by_cases c3:z1=3
  ·simp only[L55_3,Bool.false_eq_true,if_false,if_pos c3]
   exact .succ (by simp only[L55_4,if_true];exact five (.inr (.inr (.inl c3))))
  simp only[L55_3,Bool.false_eq_true,if_false,if_neg c3]
  refine .succ ?_
  by_cases c10:z1=10
  ·simp only[L55_4,Bool.false_eq_true,if_false,if_pos c10]
   exact five (.inr (.inr (.inr c10)))
  simp only[L55_4,Bool.false_eq_true,if_false,if_neg c10]
  refine .succ ?_
  have nl:¬leafT z1:=by rintro (h | h | h | h)<;>contradiction
  by_cases c4:z1=4
  ·simp only[L55_5,Bool.false_eq_true,if_false,if_pos c4]
   refine .succ ?_
   simp only[L55_6,if_true]
   exact Ev.bO1 (ev15 hs) (h2 c4)
  ·simp only[L55_5,Bool.false_eq_true,if_false,if_neg c4]
   refine .succ ?_
   simp only[L55_6,Bool.false_eq_true,if_false]
   exact h3 nl c4
 refine .succ ?_
 by_cases c:s2=ByteArray.empty
 ·simp only[F55,if_pos c];exact go true (by simp[c])
 ·simp only[F55,if_neg c];exact go false (by simp[c])
theorem pre20 {z1:Int}{s2:ByteArray}(hs:s2.size≤maxLen) {l:List D}{z4:Int}{r:Bool}(g4:¬z4<1) (g1:¬z1<1) (g14:¬14<z1)
  (h1:leafT z1→r=(decide (s2=ByteArray.empty)&&decide (l.length=0))) (h2:z1=4→r=(nm 65 90 s2&&decide (l.length=0)))
  (h3:¬leafT z1→z1≠4→Ev (fun n=>L80_6 n s2 l z4 false) r):Ev (fun n=>F80 n z1 s2 l z4) r:=by
 have five:leafT z1→Ev (fun n=>L80_5 n z1 s2 l z4 true) r:=fun c=>.succ (by
  rw[h1 c]
  simp only[L80_5,if_true,lenF]
  by_cases e:s2=ByteArray.empty
  ·by_cases e2:l.length=0
   ·simp only[if_pos e,if_pos (show (l.length:Int)=0 by omega),decide_eq_true e,decide_eq_true e2];exact .ret
   ·simp only[if_pos e,if_neg (show ¬(l.length:Int)=0 by omega),decide_eq_true e,decide_eq_false e2];exact .ret
  ·simp only[if_neg e,decide_eq_false e];exact .ret)
 refine .succ ?_
 simp only[F80,if_neg g4,if_neg g1,if_neg g14]
 refine .succ ?_
 by_cases c1:z1=1
 ·simp only[L80_1,Bool.false_eq_true,if_false,if_pos c1]
  exact .succ (by simp only[L80_2,if_true];exact five (.inl c1))
 simp only[L80_1,Bool.false_eq_true,if_false,if_neg c1]
 refine .succ ?_
 by_cases c2:z1=2
 ·simp only[L80_2,Bool.false_eq_true,if_false,if_pos c2]
  exact .succ (by simp only[L80_3,if_true];exact five (.inr (.inl c2)))
 simp only[L80_2,Bool.false_eq_true,if_false,if_neg c2]
 refine .succ ?_
 by_cases c3:z1=3
 ·simp only[L80_3,Bool.false_eq_true,if_false,if_pos c3]
  exact .succ (by simp only[L80_4,if_true];exact five (.inr (.inr (.inl c3))))
 simp only[L80_3,Bool.false_eq_true,if_false,if_neg c3]
 refine .succ ?_
 by_cases c10:z1=10
 ·simp only[L80_4,Bool.false_eq_true,if_false,if_pos c10]
  exact five (.inr (.inr (.inr c10)))
 simp only[L80_4,Bool.false_eq_true,if_false,if_neg c10]
 refine .succ ?_
 have nl:¬leafT z1:=by rintro (h | h | h | h)<;>contradiction
 by_cases c4:z1=4
 ·simp only[L80_5,Bool.false_eq_true,if_false,if_pos c4]
  refine .succ ?_
  simp only[L80_6,if_true]
  refine Ev.bO1 (ev16 hs) ?_
  rw[h2 c4]
  cases hn:nm 65 90 s2
  ·simp only[Bool.false_eq_true,if_false,Bool.false_and];exact .ret
  ·by_cases e2:l.length=0
   ·simp only[if_true,lenF,if_pos (show (l.length:Int)=0 by omega),decide_eq_true e2,Bool.true_and];exact .ret
   ·simp only[if_true,lenF,if_neg (show ¬(l.length:Int)=0 by omega),decide_eq_false e2,Bool.true_and];exact .ret
 ·simp only[L80_5,Bool.false_eq_true,if_false,if_neg c4]
  exact h3 nl c4
theorem ty_agree (l:List D):ListS tab 33 l→∀z1 (s2:ByteArray) (z4:Int),s2.size≤maxLen→0≤z4→z4≤40→Agree (fun n=>F55 n z1 s2 l z4) (fun n=>F80 n z1 s2 l z4):=by
 refine list_ind (P:=fun l=>ListS tab 33 l→∀z1 (s2:ByteArray) (z4:Int),s2.size≤maxLen→0≤z4→z4≤40→Agree (fun n=>F55 n z1 s2 l z4) (fun n=>F80 n z1 s2 l z4)) (fun l ih h z1 s2 z4 hs h0 h40=>?_) l
 by_cases g:z4<1∨z1<1∨14<z1
 ·have e7:∀z12 b,Ev (fun n=>L55_7 n z1 l z4 z12 b) false:=by
   intro z12 b
   refine .succ ?_
   rcases g with g | g | g
   ·simp only[L55_7,if_neg (show ¬0<z4 by omega)];exact .ret
   ·simp only[L55_7,if_neg (show ¬1≤z1 by omega),ite_self];exact .ret
   ·simp only[L55_7,if_neg (show ¬z1≤14 by omega),ite_self];exact .ret
  refine⟨false,pre37 hs (fun _=>e7 _ _) (fun _=>e7 _ _) (fun _ _=>e7 _ _),.succ ?_⟩
  have stop:Ev (fun n=>L80_1 n z1 s2 l z4 true) false:=.succ (by simp only[L80_1,if_true];exact .ret)
  rcases g with g | g | g
  ·simp only[F80,if_pos g];exact stop
  ·simp only[F80,if_pos g,ite_self];exact stop
  ·simp only[F80,if_pos g,ite_self];exact stop
 ·have g4:¬z4<1:=fun x=>g (.inl x)
  have g1:¬z1<1:=fun x=>g (.inr (.inl x))
  have g14:¬14<z1:=fun x=>g (.inr (.inr x))
  have zero:∀b,Ev (fun n=>L55_7 n z1 l z4 0 b) (b&&decide (l.length=0)):=by
   intro b
   refine .succ ?_
   simp only[L55_7,if_pos (show 0<z4 by omega),if_pos (show 1≤z1 by omega),if_pos (show z1≤14 by omega),lenF]
   cases b
   ·simp only[Bool.false_eq_true,if_false,Bool.false_and];exact .ret
   ·by_cases e:l.length=0
    ·simp only[if_true,if_pos (show (l.length:Int)=0 by omega),decide_eq_true e,Bool.true_and]
     refine Ev.bO2 (a:=true) (b:=z4) ?_ .ret
     refine .succ (.succ ?_)
     simp only[F100,L100_1,lenF,if_neg (show ¬(0:Int)<(l.length:Int)by omega)]
     exact .succ (by simp only[L100_2,Bool.false_eq_true,if_false,lenF,if_pos (show (l.length:Int)≤1 by omega)];exact .ret)
    ·simp only[if_true,if_neg (show ¬(l.length:Int)=0 by omega),decide_eq_false e,Bool.true_and];exact .ret
  by_cases hl:leafT z1
  ·have n4:z1≠4:=by rcases hl with h | h | h | h<;>omega
   exact⟨_,pre37 hs (fun _=>zero _) (fun h=>absurd h n4) (fun h=>absurd hl h),pre20 hs g4 g1 g14 (fun _=>rfl) (fun h=>absurd h n4) (fun h=>absurd hl h)⟩
  by_cases h4:z1=4
  ·exact⟨_,pre37 hs (fun h=>absurd h hl) (fun _=>zero _) (fun _ h=>absurd h4 h),pre20 hs g4 g1 g14 (fun h=>absurd h hl) (fun _=>rfl) (fun _ h=>absurd h4 h)⟩
  -- one child
  suffices H:∃r,Ev (fun n=>L55_7 n z1 l z4 1 (decide (s2=ByteArray.empty))) r∧Ev (fun n=>L80_6 n s2 l z4 false) r by
   obtain⟨r,q1,q2⟩:=H
   exact⟨r,pre37 hs (fun h=>absurd h hl) (fun h=>absurd h h4) (fun _ _=>q1),pre20 hs g4 g1 g14 (fun h=>absurd h hl) (fun h=>absurd h h4) (fun _ _=>q2)⟩
  by_cases e:s2=ByteArray.empty
  ·by_cases e1:l.length=1
   ·obtain⟨x,hx,hm,hr⟩:=h.get (show 0<l.length by omega)
    obtain⟨a,s,l',rfl,_,hs',hl'⟩:=rs33 hr
    have w:IntKind.i64.wrap (z4 - 1)=z4 - 1:=IntWalk.i64_in _ (by omega)
    obtain⟨r,q1,q2⟩:=ih l' (size_row (ag:=true) (sz:=3) hm (by simp)) hl' a s (z4 - 1) hs' (by omega) (by omega)
    have gx:∀{γ:Type} (k:D→Option γ),getF l (0:Int) k=k (.agg [.int .u8 a,.str s,.list true 3 l']):=fun k=>getF_nat (i:=0) hx
    refine⟨r,.succ ?_,.succ ?_⟩
    ·simp only[L55_7,if_pos (show 0<z4 by omega),if_pos (show 1≤z1 by omega),if_pos (show z1≤14 by omega),lenF,decide_eq_true e,if_true,if_pos (show (l.length:Int)=1 by omega)]
     refine Ev.bO2 (a:=r) (b:=z4) ?_ .ret
     refine .succ (.succ ?_)
     simp only[F100,L100_1,lenF,if_pos (show (0:Int)<(l.length:Int)by omega),if_pos (show (0:Int)<1 by omega)]
     refine .succ ?_
     simp only[L100_2,if_true,gx,ds_t33]
     refine Ev.bO2 (a:=r) (b:=z4) (.succ ?_) ?_
     ·simp only[F101,letF,w]
      exact Ev.bO1 q1 .ret
     ·simp only[letB]
      cases r
      ·simp only[Bool.not_false,if_true];exact .ret
      ·have w1:IntKind.i64.wrap ((0:Int)+1)=1:=rfl
       simp only[Bool.not_true,Bool.false_eq_true,if_false,letF,w1]
       refine .succ ?_
       simp only[L100_1,lenF,if_neg (show ¬(1:Int)<(l.length:Int)by omega)]
       exact .succ (by simp only[L100_2,Bool.false_eq_true,if_false,lenF,if_pos (show (l.length:Int)≤1 by omega)];exact .ret)
    ·simp only[L80_6,Bool.false_eq_true,if_false,if_pos e,lenF,if_pos (show (l.length:Int)=1 by omega),gx,ds_t33,letF,w]
     exact Ev.bO1 q2 .ret
   ·refine⟨false,.succ ?_,.succ ?_⟩
    ·simp only[L55_7,if_neg (show ¬(l.length:Int)=1 by omega),lenF,ite_self];exact .ret
    ·simp only[L80_6,Bool.false_eq_true,if_false,if_pos e,lenF,if_neg (show ¬(l.length:Int)=1 by omega)];exact .ret
  ·refine⟨false,.succ ?_,.succ ?_⟩
   ·simp only[L55_7,decide_eq_false e,Bool.false_eq_true,if_false,ite_self];exact .ret
   ·simp only[L80_6,Bool.false_eq_true,if_false,if_neg e];exact .ret
end Go.Proofs.YtjmofeakajdbiaaGreatDoor
set_option linter.unusedVariables false
noncomputable section
namespace Go.Proofs.YtjmofeakajdbiaaGreatDoor
open Go Go.AM
def L132_1:Nat->Int->Bool->Option (BA)
 | 0,_,_=>none
 | n+1,z1,b3=>
  (if b3=true then some ByteArray.empty else getF ([.str ByteArray.empty,.str k_i0,.str k_b0,.str k_0,.str k_p0,.str k_p0,.str k_p0,.str k_1,.str k_1,.str k_2,.str k_2,.str k_2,.str k_2,.str k_2,.str k_2,.str k_2,.str k_2,.str k_2,.str k_n6,.str k_tf6,.str k_tv9,.str k_1,.str k_1,.str k_1,.str k_p0,.str k_p1,.str k_1,.str k_1,.str k_p0,.str k_1,.str k_1,.str k_1,.str k_p0,.str k_p1,.str k_p1,.str k_p1,.str k_p0]) z1 fun x4=>ds_str x4 fun s5=>some s5)
def F132 (n:Nat) (z1:Int):Option (BA):=
 letF (IntKind.wrap .i64 z1) fun z2=>(if (37:Int)<=z2 then L132_1 n z1 true else L132_1 n z1 false)
def L133_2:Nat->BA->Int->Bool->Option (Bool)
 | 0,_,_,_=>none
 | n+1,s1,z2,b7=>
  (if b7=true then (if z2<=(1:Int)then some true else some false)else szF s1 fun z8=>letF (IntKind.wrap .i64 (z8 - 1)) fun z9=>atF s1 z9 fun z10=>letF (IntKind.wrap .u8 (z10 - 48)) fun z11=>letF (IntKind.wrap .i64 z11) fun z12=>(if z2=z12 then some true else some false))
def L133_1:Nat->BA->Int->Int->Bool->Option (Bool)
 | 0,_,_,_,_=>none
 | n+1,s1,z2,z5,b6=>
  (if b6=true then (if z2<=(6:Int)then some true else some false)else (if z5=(57:Int)then L133_2 n s1 z2 true else L133_2 n s1 z2 false))
def F133 (n:Nat) (s1:BA) (z2:Int):Option (Bool):=
 szF s1 fun z3=>letF (IntKind.wrap .i64 (z3 - 1)) fun z4=>atF s1 z4 fun z5=>(if z5=(54:Int)then L133_1 n s1 z2 z5 true else L133_1 n s1 z2 z5 false)
mutual
def L134_1:Nat->BA->Int->Int->Option (Bool)
 | 0,_,_,_=>none
 | n+1,s1,z2,z3=>
  szF s1 fun z4=>(if z3<z4 then L134_2 n s1 z2 z3 true else L134_2 n s1 z2 z3 false)
def L134_2:Nat->BA->Int->Int->Bool->Option (Bool)
 | 0,_,_,_,_=>none
 | n+1,s1,z2,z3,b5=>
  (if b5=true then atF s1 z3 fun z6=>(if z6=z2 then L134_3 n s1 z2 z3 true else L134_3 n s1 z2 z3 false)else some false)
def L134_3:Nat->BA->Int->Int->Bool->Option (Bool)
 | 0,_,_,_,_=>none
 | n+1,s1,z2,z3,b7=>
  (if b7=true then some true else letF (IntKind.wrap .i64 (z3+1)) fun z8=>L134_1 n s1 z2 z8)
end
def F134 (n:Nat) (s1:BA) (z2:Int):Option (Bool):=
 L134_1 n s1 z2 (0:Int)
mutual
def L135_2:Nat->LD->Int->Option (Bool)
 | 0,_,_=>none
 | n+1,l2,z7=>
  lenF l2 fun z8=>(if z7<z8 then L135_3 n l2 z7 true else L135_3 n l2 z7 false)
def L135_3:Nat->LD->Int->Bool->Option (Bool)
 | 0,_,_,_=>none
 | n+1,l2,z7,b9=>
  (if b9=true then getF l2 z7 fun x10=>ds_str x10 fun s11=>(if s11=k__ then L135_4 n l2 z7 false else getF l2 z7 fun x12=>ds_str x12 fun s13=>bO1 (F81 n s13) fun b14=>letB (!b14) fun b15=>L135_4 n l2 z7 b15)else some true)
def L135_4:Nat->LD->Int->Bool->Option (Bool)
 | 0,_,_,_=>none
 | n+1,l2,z7,b16=>
  (if b16=true then some false else letF (IntKind.wrap .i64 (z7+1)) fun z17=>L135_2 n l2 z17)
end
def L135_1:Nat->LD->Bool->Option (Bool)
 | 0,_,_=>none
 | n+1,l2,b6=>
  (if b6=true then some false else L135_2 n l2 (0:Int))
def F135 (n:Nat) (s1:BA) (l2:LD):Option (Bool):=
 bO1 (F81 n s1) fun b3=>letB (!b3) fun b4=>(if b4=true then L135_1 n l2 true else lenF l2 fun z5=>(if (40:Int)<z5 then L135_1 n l2 true else L135_1 n l2 false))
mutual
def L136_2:Nat->LD->Int->Option (Bool)
 | 0,_,_=>none
 | n+1,l6,z12=>
  lenF l6 fun z13=>(if z12<z13 then L136_3 n l6 z12 true else L136_3 n l6 z12 false)
def L136_3:Nat->LD->Int->Bool->Option (Bool)
 | 0,_,_,_=>none
 | n+1,l6,z12,b14=>
  (if b14=true then getF l6 z12 fun x15=>ds_str x15 fun s16=>bO1 (F81 n s16) fun b17=>letB (!b17) fun b18=>(if b18=true then some false else letF (IntKind.wrap .i64 (z12+1)) fun z19=>L136_2 n l6 z19)else some true)
end
def L136_1:Nat->LD->Bool->Option (Bool)
 | 0,_,_=>none
 | n+1,l6,b11=>
  (if b11=true then some false else L136_2 n l6 (0:Int))
def F136 (n:Nat) (z1:Int) (z2:Int) (s3:BA) (s4:BA) (s5:BA) (l6:LD) (l7:LD) (z8:Int):Option (Bool):=
 (if s5=ByteArray.empty then lenF l6 fun z9=>lenF l7 fun z10=>(if z9=z10 then L136_1 n l6 false else L136_1 n l6 true)else L136_1 n l6 true)
def F83 (n:Nat) (z1:Int) (z2:Int) (s3:BA) (s4:BA) (s5:BA) (l6:LD) (l7:LD) (z8:Int):Option (Bool):=
 (if z1=(5:Int)then some true else (if z1=(6:Int)then some true else some false))
mutual
def L84_1:Nat->Int->Int->BA->BA->BA->LD->LD->Int->Int->BA->Bool->Option (Bool)
 | 0,_,_,_,_,_,_,_,_,_,_,_=>none
 | n+1,z1,z2,s3,s4,s5,l6,l7,z8,z9,s10,b14=>
  (if b14=true then some false else bO1 (F134 n s10 (105:Int)) fun b15=>(if b15=true then (if z2<(0:Int)then L84_2 n z1 z2 s3 s4 s5 l6 l7 z8 z9 s10 true else L84_2 n z1 z2 s3 s4 s5 l6 l7 z8 z9 s10 false)else bO1 (F134 n s10 (98:Int)) fun b17=>(if b17=true then (if z2=(0:Int)then L84_3 n z1 z2 s3 s4 s5 l6 l7 z8 z9 s10 false else (if z2=(1:Int)then L84_3 n z1 z2 s3 s4 s5 l6 l7 z8 z9 s10 false else L84_3 n z1 z2 s3 s4 s5 l6 l7 z8 z9 s10 true))else (if z2=(0:Int)then L84_4 n z1 z2 s3 s4 s5 l6 l7 z8 z9 s10 false else L84_4 n z1 z2 s3 s4 s5 l6 l7 z8 z9 s10 true))))
def L84_2:Nat->Int->Int->BA->BA->BA->LD->LD->Int->Int->BA->Bool->Option (Bool)
 | 0,_,_,_,_,_,_,_,_,_,_,_=>none
 | n+1,z1,z2,s3,s4,s5,l6,l7,z8,z9,s10,b16=>
  (if b16=true then some false else L84_5 n z1 z2 s3 s4 s5 l6 l7 z8 z9 s10)
def L84_3:Nat->Int->Int->BA->BA->BA->LD->LD->Int->Int->BA->Bool->Option (Bool)
 | 0,_,_,_,_,_,_,_,_,_,_,_=>none
 | n+1,z1,z2,s3,s4,s5,l6,l7,z8,z9,s10,b18=>
  (if b18=true then some false else L84_5 n z1 z2 s3 s4 s5 l6 l7 z8 z9 s10)
def L84_4:Nat->Int->Int->BA->BA->BA->LD->LD->Int->Int->BA->Bool->Option (Bool)
 | 0,_,_,_,_,_,_,_,_,_,_,_=>none
 | n+1,z1,z2,s3,s4,s5,l6,l7,z8,z9,s10,b19=>
  (if b19=true then some false else L84_5 n z1 z2 s3 s4 s5 l6 l7 z8 z9 s10)
def L84_5:Nat->Int->Int->BA->BA->BA->LD->LD->Int->Int->BA->Option (Bool)
 | 0,_,_,_,_,_,_,_,_,_,_=>none
 | n+1,z1,z2,s3,s4,s5,l6,l7,z8,z9,s10=>
  bO1 (F134 n s10 (112:Int)) fun b20=>(if b20=true then bO1 (F135 n s5 l6) fun b21=>letB (!b21) fun b22=>(if b22=true then some false else L84_7 n z1 s3 s4 l7 z9 s10)else bO1 (F134 n s10 (102:Int)) fun b23=>(if b23=true then bO1 (F136 n z1 z2 s3 s4 s5 l6 l7 z8) fun b24=>letB (!b24) fun b25=>(if b25=true then some false else L84_7 n z1 s3 s4 l7 z9 s10)else (if s5=ByteArray.empty then lenF l6 fun z26=>(if (0:Int)<z26 then L84_6 n z1 s3 s4 l7 z9 s10 true else L84_6 n z1 s3 s4 l7 z9 s10 false)else L84_6 n z1 s3 s4 l7 z9 s10 true)))
def L84_6:Nat->Int->BA->BA->LD->Int->BA->Bool->Option (Bool)
 | 0,_,_,_,_,_,_,_=>none
 | n+1,z1,s3,s4,l7,z9,s10,b27=>
  (if b27=true then some false else L84_7 n z1 s3 s4 l7 z9 s10)
def L84_7:Nat->Int->BA->BA->LD->Int->BA->Option (Bool)
 | 0,_,_,_,_,_,_=>none
 | n+1,z1,s3,s4,l7,z9,s10=>
  bO1 (F134 n s10 (110:Int)) fun b28=>(if b28=true then bO1 (F81 n s3) fun b29=>letB (!b29) fun b30=>(if b30=true then L84_8 n z1 s4 l7 z9 s10 true else bO1 (F134 n s10 (116:Int)) fun b31=>(if b31=true then bO1 (F78 n s3) fun b32=>letB (!b32) fun b33=>(if b33=true then L84_8 n z1 s4 l7 z9 s10 true else bO1 (F134 n s10 (110:Int)) fun b34=>letB (!b34) fun b35=>(if b35=true then bO1 (F134 n s10 (116:Int)) fun b36=>letB (!b36) fun b37=>(if b37=true then (if s3=ByteArray.empty then L84_8 n z1 s4 l7 z9 s10 false else L84_8 n z1 s4 l7 z9 s10 true)else L84_8 n z1 s4 l7 z9 s10 false)else L84_8 n z1 s4 l7 z9 s10 false))else bO1 (F134 n s10 (110:Int)) fun b38=>letB (!b38) fun b39=>(if b39=true then bO1 (F134 n s10 (116:Int)) fun b40=>letB (!b40) fun b41=>(if b41=true then (if s3=ByteArray.empty then L84_8 n z1 s4 l7 z9 s10 false else L84_8 n z1 s4 l7 z9 s10 true)else L84_8 n z1 s4 l7 z9 s10 false)else L84_8 n z1 s4 l7 z9 s10 false)))else bO1 (F134 n s10 (116:Int)) fun b42=>(if b42=true then bO1 (F78 n s3) fun b43=>letB (!b43) fun b44=>(if b44=true then L84_8 n z1 s4 l7 z9 s10 true else bO1 (F134 n s10 (110:Int)) fun b45=>letB (!b45) fun b46=>(if b46=true then bO1 (F134 n s10 (116:Int)) fun b47=>letB (!b47) fun b48=>(if b48=true then (if s3=ByteArray.empty then L84_8 n z1 s4 l7 z9 s10 false else L84_8 n z1 s4 l7 z9 s10 true)else L84_8 n z1 s4 l7 z9 s10 false)else L84_8 n z1 s4 l7 z9 s10 false))else bO1 (F134 n s10 (110:Int)) fun b49=>letB (!b49) fun b50=>(if b50=true then bO1 (F134 n s10 (116:Int)) fun b51=>letB (!b51) fun b52=>(if b52=true then (if s3=ByteArray.empty then L84_8 n z1 s4 l7 z9 s10 false else L84_8 n z1 s4 l7 z9 s10 true)else L84_8 n z1 s4 l7 z9 s10 false)else L84_8 n z1 s4 l7 z9 s10 false)))
def L84_8:Nat->Int->BA->LD->Int->BA->Bool->Option (Bool)
 | 0,_,_,_,_,_,_=>none
 | n+1,z1,s4,l7,z9,s10,b53=>
  (if b53=true then some false else bO1 (F134 n s10 (118:Int)) fun b54=>(if b54=true then bO1 (F78 n s4) fun b55=>letB (!b55) fun b56=>(if b56=true then L84_9 n z1 l7 z9 true else bO1 (F134 n s10 (118:Int)) fun b57=>letB (!b57) fun b58=>(if b58=true then (if s4=ByteArray.empty then L84_9 n z1 l7 z9 false else L84_9 n z1 l7 z9 true)else L84_9 n z1 l7 z9 false))else bO1 (F134 n s10 (118:Int)) fun b59=>letB (!b59) fun b60=>(if b60=true then (if s4=ByteArray.empty then L84_9 n z1 l7 z9 false else L84_9 n z1 l7 z9 true)else L84_9 n z1 l7 z9 false)))
def L84_9:Nat->Int->LD->Int->Bool->Option (Bool)
 | 0,_,_,_,_=>none
 | n+1,z1,l7,z9,b61=>
  (if b61=true then some false else L84_10 n z1 l7 z9 (0:Int))
def L84_10:Nat->Int->LD->Int->Int->Option (Bool)
 | 0,_,_,_,_=>none
 | n+1,z1,l7,z9,z62=>
  lenF l7 fun z63=>(if z62<z63 then L84_11 n z1 l7 z9 z62 true else L84_11 n z1 l7 z9 z62 false)
def L84_11:Nat->Int->LD->Int->Int->Bool->Option (Bool)
 | 0,_,_,_,_,_=>none
 | n+1,z1,l7,z9,z62,b64=>
  (if b64=true then getF l7 z62 fun x65=>ds_t39 x65 fun z66 z67 s68 s69 s70 l71 l72 z73=>bO1 (F83 n z66 z67 s68 s69 s70 l71 l72 z73) fun b74=>(if b74=true then (if z1=(18:Int)then getF l7 z62 fun x75=>ds_t39 x75 fun z76 z77 s78 s79 s80 l81 l82 z83=>letF (IntKind.wrap .i64 (z9 - 1)) fun z84=>bO1 (F84 n z76 z77 s78 s79 s80 l81 l82 z83 z84) fun b85=>letB (!b85) fun b86=>L84_12 n z1 l7 z9 z62 b86 else L84_12 n z1 l7 z9 z62 true)else getF l7 z62 fun x87=>ds_t39 x87 fun z88 z89 s90 s91 s92 l93 l94 z95=>letF (IntKind.wrap .i64 (z9 - 1)) fun z96=>bO1 (F84 n z88 z89 s90 s91 s92 l93 l94 z95 z96) fun b97=>letB (!b97) fun b98=>L84_12 n z1 l7 z9 z62 b98)else some true)
def L84_12:Nat->Int->LD->Int->Int->Bool->Option (Bool)
 | 0,_,_,_,_,_=>none
 | n+1,z1,l7,z9,z62,b99=>
  (if b99=true then some false else letF (IntKind.wrap .i64 (z62+1)) fun z100=>L84_10 n z1 l7 z9 z100)
def F84:Nat->Int->Int->BA->BA->BA->LD->LD->Int->Int->Option (Bool)
 | 0,_,_,_,_,_,_,_,_,_=>none
 | n+1,z1,z2,s3,s4,s5,l6,l7,z8,z9=>
  bO1 (F132 n z1) fun s10=>(if z9<(1:Int)then L84_1 n z1 z2 s3 s4 s5 l6 l7 z8 z9 s10 true else (if s10=ByteArray.empty then L84_1 n z1 z2 s3 s4 s5 l6 l7 z8 z9 s10 true else lenF l7 fun z11=>bO1 (F133 n s10 z11) fun b12=>letB (!b12) fun b13=>L84_1 n z1 z2 s3 s4 s5 l6 l7 z8 z9 s10 b13))
end
end Go.Proofs.YtjmofeakajdbiaaGreatDoor
end
set_option linter.unusedVariables false
noncomputable section
namespace Go.Proofs.YtjmofeakajdbiaaGreatDoor
open Go Go.AM
def stB:D→Bool
 | .str s=>decide (s=k__) || nm 97 122 s
 | _=>false
def nmB:D→Bool
 | .str s=>nm 97 122 s
 | _=>false
def plB (s:ByteArray) (l:List D):Bool:=nm 97 122 s&&(l.all stB&&decide (l.length≤40))
theorem all_drop {L:List D}{i:Nat}{x:D}(h:L[i]?=some x) (p:D→Bool):(L.drop i).all p=(p x&&(L.drop (i+1)).all p):=by
 obtain⟨hi,rfl⟩:=List.getElem?_eq_some_iff.1 h
 rw[List.drop_eq_getElem_cons hi,List.all_cons]
theorem ev45 {s:ByteArray}(hs:s.size≤maxLen):Ev (fun n=>F94 n s) (stB (.str s)):=by
 unfold F94 stB
 by_cases h:s=k__
 ·simp only[if_pos h,decide_eq_true h,Bool.true_or];exact Ev.ret
 ·simp only[if_neg h,decide_eq_false h,Bool.false_or];exact Ev.bO1 (ev13 hs) Ev.ret
theorem ev44 {L:List D}(hL:ListS tab 9 L) (m:Nat):∃r,Ev (fun n=>F93 n L (m:Int)) r∧r=(L.all stB&&decide (L.length≤m))∨(m<L.length∧Ev (fun n=>F93 n L (m:Int)) false):=by
 by_cases hm:L.length≤m
 ·have loop:∀i,i≤L.length→Ev (fun n=>L93_1 n L (m:Int) (i:Int)) ((L.drop i).all stB):=by
   refine down L.length (Ev.succ ?_) (fun i hi ih=>?_)
   ·simp only[L93_1,lenF,Int.lt_irrefl,if_false,List.drop_length]
    exact Ev.succ (by simp only[L93_2,Bool.false_eq_true,if_false,lenF,if_pos (show (L.length:Int)≤(m:Int)by omega)];exact Ev.ret)
   ·obtain⟨x,hx,_,hr⟩:=hL.get hi
    obtain⟨s,rfl,hs⟩:=rs9 hr
    rw[all_drop hx]
    refine Ev.succ ?_
    simp only[L93_1,lenF,if_pos (show (i:Int)<(L.length:Int)by omega),if_pos (show (i:Int)<(m:Int)by omega)]
    refine Ev.succ ?_
    simp only[L93_2,if_true,getF_nat hx,ds_str]
    refine Ev.bO1 (ev45 hs) ?_
    cases stB (.str s)
    ·simp only[letB,Bool.not_false,if_true,Bool.false_and];exact Ev.ret
    ·simp only[letB,Bool.not_true,Bool.false_eq_true,if_false,letF,wrap_succ hi hL.1,Bool.true_and];exact ih
  refine⟨_,.inl ⟨loop 0 (Nat.zero_le _),?_⟩⟩
  rw[decide_eq_true hm,Bool.and_true];rfl
 ·have loop:∀i,i≤m→Ev (fun n=>L93_1 n L (m:Int) (i:Int)) false:=by
   refine down m (Ev.succ ?_) (fun i hi ih=>?_)
   ·simp only[L93_1,lenF,if_pos (show (m:Int)<(L.length:Int)by omega),Int.lt_irrefl,if_false]
    exact Ev.succ (by simp only[L93_2,Bool.false_eq_true,if_false,lenF,if_neg (show ¬(L.length:Int)≤(m:Int)by omega)];exact Ev.ret)
   ·obtain⟨x,hx,_,hr⟩:=hL.get (show i<L.length by omega)
    obtain⟨s,rfl,hs⟩:=rs9 hr
    refine Ev.succ ?_
    simp only[L93_1,lenF,if_pos (show (i:Int)<(L.length:Int)by omega),if_pos (show (i:Int)<(m:Int)by omega)]
    refine Ev.succ ?_
    simp only[L93_2,if_true,getF_nat hx,ds_str]
    refine Ev.bO1 (ev45 hs) ?_
    cases stB (.str s)
    ·simp only[letB,Bool.not_false,if_true];exact Ev.ret
    ·simp only[letB,Bool.not_true,Bool.false_eq_true,if_false,letF,wrap_succ (show i<L.length by omega) hL.1];exact ih
  exact⟨false,.inr ⟨by omega,loop 0 (Nat.zero_le _)⟩⟩
theorem ev44' {L:List D}(hL:ListS tab 9 L) (m:Nat):Ev (fun n=>F93 n L (m:Int)) (L.all stB&&decide (L.length≤m)):=by
 obtain⟨r,⟨h1,h2⟩ | ⟨h1,h2⟩⟩:=ev44 hL m
 ·rw[←h2];exact h1
 ·rw[decide_eq_false (by omega),Bool.and_false];exact h2
theorem ev44x {L:List D}(hL:ListS tab 9 L) (m:Nat):Ev (fun n=>F93x1 n L (m:Int)) (L.all nmB&&decide (L.length≤m)):=by
 by_cases hm:L.length≤m
 ·have loop:∀i,i≤L.length→Ev (fun n=>L93x1_1 n L (m:Int) (i:Int)) ((L.drop i).all nmB):=by
   refine down L.length (Ev.succ ?_) (fun i hi ih=>?_)
   ·simp only[L93x1_1,lenF,Int.lt_irrefl,if_false,List.drop_length]
    exact Ev.succ (by simp only[L93x1_2,Bool.false_eq_true,if_false,lenF,if_pos (show (L.length:Int)≤(m:Int)by omega)];exact Ev.ret)
   ·obtain⟨x,hx,_,hr⟩:=hL.get hi
    obtain⟨s,rfl,hs⟩:=rs9 hr
    rw[all_drop hx]
    refine Ev.succ ?_
    simp only[L93x1_1,lenF,if_pos (show (i:Int)<(L.length:Int)by omega),if_pos (show (i:Int)<(m:Int)by omega)]
    refine Ev.succ ?_
    simp only[L93x1_2,if_true,getF_nat hx,ds_str]
    refine Ev.bO1 (ev13 hs) ?_
    simp only[nmB]
    cases nm 97 122 s
    ·simp only[letB,Bool.not_false,if_true,Bool.false_and];exact Ev.ret
    ·simp only[letB,Bool.not_true,Bool.false_eq_true,if_false,letF,wrap_succ hi hL.1,Bool.true_and];exact ih
  rw[decide_eq_true hm,Bool.and_true]
  exact loop 0 (Nat.zero_le _)
 ·have loop:∀i,i≤m→Ev (fun n=>L93x1_1 n L (m:Int) (i:Int)) false:=by
   refine down m (Ev.succ ?_) (fun i hi ih=>?_)
   ·simp only[L93x1_1,lenF,if_pos (show (m:Int)<(L.length:Int)by omega),Int.lt_irrefl,if_false]
    exact Ev.succ (by simp only[L93x1_2,Bool.false_eq_true,if_false,lenF,if_neg (show ¬(L.length:Int)≤(m:Int)by omega)];exact Ev.ret)
   ·obtain⟨x,hx,_,hr⟩:=hL.get (show i<L.length by omega)
    obtain⟨s,rfl,hs⟩:=rs9 hr
    refine Ev.succ ?_
    simp only[L93x1_1,lenF,if_pos (show (i:Int)<(L.length:Int)by omega),if_pos (show (i:Int)<(m:Int)by omega)]
    refine Ev.succ ?_
    simp only[L93x1_2,if_true,getF_nat hx,ds_str]
    refine Ev.bO1 (ev13 hs) ?_
    cases nm 97 122 s
    ·simp only[letB,Bool.not_false,if_true];exact Ev.ret
    ·simp only[letB,Bool.not_true,Bool.false_eq_true,if_false,letF,wrap_succ (show i<L.length by omega) hL.1];exact ih
  rw[decide_eq_false hm,Bool.and_false]
  exact loop 0 (Nat.zero_le _)
theorem ev24 {s:ByteArray}(hs:s.size≤maxLen) {l:List D}(hl:ListS tab 9 l):Ev (fun n=>F52 n s l) (plB s l):=by
 unfold F52 plB
 refine Ev.bO1 (ev13 hs) ?_
 cases nm 97 122 s
 ·simp only[Bool.false_eq_true,if_false,Bool.false_and];exact Ev.ret
 ·simp only[if_true,Bool.true_and];exact Ev.bO1 (ev44' hl 40) Ev.ret
theorem ev25 {s:ByteArray}(hs:s.size≤maxLen) {l:List D}(hl:ListS tab 9 l):Ev (fun n=>F135 n s l) (plB s l):=by
 have loop:∀i,i≤l.length→Ev (fun n=>L135_2 n l (i:Int)) ((l.drop i).all stB):=by
  refine down l.length (Ev.succ ?_) (fun i hi ih=>?_)
  ·simp only[L135_2,lenF,Int.lt_irrefl,if_false,List.drop_length]
   exact Ev.succ (by simp only[L135_3,Bool.false_eq_true,if_false];exact Ev.ret)
  ·obtain⟨x,hx,_,hr⟩:=hl.get hi
   obtain⟨s,rfl,hs⟩:=rs9 hr
   rw[all_drop hx]
   refine Ev.succ ?_
   simp only[L135_2,lenF,if_pos (show (i:Int)<(l.length:Int)by omega)]
   refine Ev.succ ?_
   simp only[L135_3,if_true,getF_nat hx,ds_str,stB]
   have fin:∀b,Ev (fun n=>L135_4 n l (i:Int) (!b)) (b&&(l.drop (i+1)).all stB):=by
    intro b
    refine Ev.succ ?_
    cases b
    ·simp only[L135_4,Bool.not_false,if_true,Bool.false_and];exact Ev.ret
    ·simp only[L135_4,Bool.not_true,Bool.false_eq_true,if_false,letF,wrap_succ hi hl.1,Bool.true_and];exact ih
   by_cases h:s=k__
   ·simp only[if_pos h,decide_eq_true h,Bool.true_or];exact fin true
   ·simp only[if_neg h,decide_eq_false h,Bool.false_or]
    exact Ev.bO1 (ev14 hs) (by simp only[letB];exact fin _)
 unfold F135 plB
 refine Ev.bO1 (ev14 hs) ?_
 have no:Ev (fun n=>L135_1 n l true) false:=Ev.succ (by simp only[L135_1,if_true];exact Ev.ret)
 cases nm 97 122 s
 ·simp only[letB,Bool.not_false,if_true,Bool.false_and];exact no
 ·simp only[letB,Bool.not_true,Bool.false_eq_true,if_false,lenF,Bool.true_and]
  by_cases h:40<(l.length:Int)
  ·simp only[if_pos h,decide_eq_false (show ¬l.length≤40 by omega),Bool.and_false];exact no
  ·simp only[if_neg h,decide_eq_true (show l.length≤40 by omega),Bool.and_true]
   exact Ev.succ (by simp only[L135_1,Bool.false_eq_true,if_false];exact loop 0 (Nat.zero_le _))
structure Good (z1:Int) (f:ByteArray) (hp:Bool) (least most:Int):Prop where
 f40:Ev (fun n=>F132 n z1) f
 f58:Ev (fun n=>F95 n z1) (hp,least,most,true)
 ne:¬f=ByteArray.empty
 many:∀n:Int,0≤n→Ev (fun k=>F133 k f n) (decide (least≤n)&&decide (n≤most))
 hi:Ev (fun n=>F134 n f 105) (decide (z1=1))
 hb:Ev (fun n=>F134 n f 98) (decide (z1=2))
 h112:Ev (fun n=>F134 n f 112) hp
 hf:Ev (fun n=>F134 n f 102) (decide (z1=19))
 hn:Ev (fun n=>F134 n f 110) (decide (z1=18))
 ht:Ev (fun n=>F134 n f 116) (decide (z1=19∨z1=20))
 hv:Ev (fun n=>F134 n f 118) (decide (z1=20))
 np:z1=18∨z1=19∨z1=20→hp=false
 most6:0≤least∧least≤most∧most≤6
theorem evAt {α:Type}{A:Nat→Option α}{r:α}(h:∀m,A (m+40)=some r):Ev A r:=⟨40,fun n hn=>by obtain⟨m,rfl⟩:∃m,n=m+40:=⟨n - 40,by omega⟩;exact h m⟩
theorem many0 (m:Nat) (z:Int):F133 (m+40) k_0 z=(if z=0 then some true else some false):=by kernel_rfl
theorem manyi (m:Nat) (z:Int):F133 (m+40) k_i0 z=(if z=0 then some true else some false):=by kernel_rfl
theorem manyb (m:Nat) (z:Int):F133 (m+40) k_b0 z=(if z=0 then some true else some false):=by kernel_rfl
theorem manyp (m:Nat) (z:Int):F133 (m+40) k_p0 z=(if z=0 then some true else some false):=by kernel_rfl
theorem manyq (m:Nat) (z:Int):F133 (m+40) k_p1 z=(if z=1 then some true else some false):=by kernel_rfl
theorem many1 (m:Nat) (z:Int):F133 (m+40) k_1 z=(if z=1 then some true else some false):=by kernel_rfl
theorem many2 (m:Nat) (z:Int):F133 (m+40) k_2 z=(if z=2 then some true else some false):=by kernel_rfl
theorem manyn (m:Nat) (z:Int):F133 (m+40) k_n6 z=(if z≤6 then some true else some false):=by kernel_rfl
theorem manyt (m:Nat) (z:Int):F133 (m+40) k_tf6 z=(if z≤6 then some true else some false):=by kernel_rfl
theorem manyv (m:Nat) (z:Int):F133 (m+40) k_tv9 z=(if z≤1 then some true else some false):=by kernel_rfl
theorem ifE {z k:Int}:(if z=k then some true else some false)=some (decide (k≤z)&&decide (z≤k)):=by
 by_cases h:z=k
 ·simp[h]
 ·rw[if_neg h];congr 1;symm;rw[Bool.and_eq_false_iff]
  by_cases h1:k≤z
  ·right;exact decide_eq_false (by omega)
  ·left;exact decide_eq_false h1
theorem ifL {z k:Int}(h0:0≤z):(if z≤k then some true else some false)=some (decide (0≤z)&&decide (z≤k)):=by
 by_cases h:z≤k<;>simp[h,h0]
theorem good_of {z1:Int}{f:ByteArray}{hp:Bool}{least most:Int}(a:∀m,F132 (m+40) z1=some f) (b:∀m,F95 (m+40) z1=some (hp,least,most,true)) (c:¬f=ByteArray.empty)
  (d:∀(m:Nat) (n:Int),0≤n→F133 (m+40) f n=some (decide (least≤n)&&decide (n≤most)))
  (e1:∀m,F134 (m+40) f 105=some (decide (z1=1))) (e2:∀m,F134 (m+40) f 98=some (decide (z1=2))) (e3:∀m,F134 (m+40) f 112=some hp) (e4:∀m,F134 (m+40) f 102=some (decide (z1=19)))
  (e5:∀m,F134 (m+40) f 110=some (decide (z1=18))) (e6:∀m,F134 (m+40) f 116=some (decide (z1=19∨z1=20))) (e7:∀m,F134 (m+40) f 118=some (decide (z1=20)))
  (g:z1=18∨z1=19∨z1=20→hp=false) (k:0≤least∧least≤most∧most≤6):Good z1 f hp least most:=
 ⟨evAt a,evAt b,c,fun n hn=>evAt fun m=>d m n hn,evAt e1,evAt e2,evAt e3,evAt e4,evAt e5,evAt e6,evAt e7,g,k⟩
theorem good1:Good 1 k_i0 false 0 0:=good_of (fun m=>by kernel_rfl) (fun m=>by kernel_rfl) (by decide) (fun m n h0=>by rw[manyi];exact ifE) (fun m=>by kernel_rfl) (fun m=>by kernel_rfl) (fun m=>by kernel_rfl) (fun m=>by kernel_rfl) (fun m=>by kernel_rfl) (fun m=>by kernel_rfl) (fun m=>by kernel_rfl) (fun _=>rfl) (by decide)
theorem good2:Good 2 k_b0 false 0 0:=good_of (fun m=>by kernel_rfl) (fun m=>by kernel_rfl) (by decide) (fun m n h0=>by rw[manyb];exact ifE) (fun m=>by kernel_rfl) (fun m=>by kernel_rfl) (fun m=>by kernel_rfl) (fun m=>by kernel_rfl) (fun m=>by kernel_rfl) (fun m=>by kernel_rfl) (fun m=>by kernel_rfl) (fun _=>rfl) (by decide)
theorem good3:Good 3 k_0 false 0 0:=good_of (fun m=>by kernel_rfl) (fun m=>by kernel_rfl) (by decide) (fun m n h0=>by rw[many0];exact ifE) (fun m=>by kernel_rfl) (fun m=>by kernel_rfl) (fun m=>by kernel_rfl) (fun m=>by kernel_rfl) (fun m=>by kernel_rfl) (fun m=>by kernel_rfl) (fun m=>by kernel_rfl) (fun _=>rfl) (by decide)
theorem good4:Good 4 k_p0 true 0 0:=good_of (fun m=>by kernel_rfl) (fun m=>by kernel_rfl) (by decide) (fun m n h0=>by rw[manyp];exact ifE) (fun m=>by kernel_rfl) (fun m=>by kernel_rfl) (fun m=>by kernel_rfl) (fun m=>by kernel_rfl) (fun m=>by kernel_rfl) (fun m=>by kernel_rfl) (fun m=>by kernel_rfl) (fun h=>by omega) (by decide)
theorem good5:Good 5 k_p0 true 0 0:=good_of (fun m=>by kernel_rfl) (fun m=>by kernel_rfl) (by decide) (fun m n h0=>by rw[manyp];exact ifE) (fun m=>by kernel_rfl) (fun m=>by kernel_rfl) (fun m=>by kernel_rfl) (fun m=>by kernel_rfl) (fun m=>by kernel_rfl) (fun m=>by kernel_rfl) (fun m=>by kernel_rfl) (fun h=>by omega) (by decide)
theorem good6:Good 6 k_p0 true 0 0:=good_of (fun m=>by kernel_rfl) (fun m=>by kernel_rfl) (by decide) (fun m n h0=>by rw[manyp];exact ifE) (fun m=>by kernel_rfl) (fun m=>by kernel_rfl) (fun m=>by kernel_rfl) (fun m=>by kernel_rfl) (fun m=>by kernel_rfl) (fun m=>by kernel_rfl) (fun m=>by kernel_rfl) (fun h=>by omega) (by decide)
theorem good7:Good 7 k_1 false 1 1:=good_of (fun m=>by kernel_rfl) (fun m=>by kernel_rfl) (by decide) (fun m n h0=>by rw[many1];exact ifE) (fun m=>by kernel_rfl) (fun m=>by kernel_rfl) (fun m=>by kernel_rfl) (fun m=>by kernel_rfl) (fun m=>by kernel_rfl) (fun m=>by kernel_rfl) (fun m=>by kernel_rfl) (fun _=>rfl) (by decide)
theorem good8:Good 8 k_1 false 1 1:=good_of (fun m=>by kernel_rfl) (fun m=>by kernel_rfl) (by decide) (fun m n h0=>by rw[many1];exact ifE) (fun m=>by kernel_rfl) (fun m=>by kernel_rfl) (fun m=>by kernel_rfl) (fun m=>by kernel_rfl) (fun m=>by kernel_rfl) (fun m=>by kernel_rfl) (fun m=>by kernel_rfl) (fun _=>rfl) (by decide)
theorem good9:Good 9 k_2 false 2 2:=good_of (fun m=>by kernel_rfl) (fun m=>by kernel_rfl) (by decide) (fun m n h0=>by rw[many2];exact ifE) (fun m=>by kernel_rfl) (fun m=>by kernel_rfl) (fun m=>by kernel_rfl) (fun m=>by kernel_rfl) (fun m=>by kernel_rfl) (fun m=>by kernel_rfl) (fun m=>by kernel_rfl) (fun _=>rfl) (by decide)
theorem good10:Good 10 k_2 false 2 2:=good_of (fun m=>by kernel_rfl) (fun m=>by kernel_rfl) (by decide) (fun m n h0=>by rw[many2];exact ifE) (fun m=>by kernel_rfl) (fun m=>by kernel_rfl) (fun m=>by kernel_rfl) (fun m=>by kernel_rfl) (fun m=>by kernel_rfl) (fun m=>by kernel_rfl) (fun m=>by kernel_rfl) (fun _=>rfl) (by decide)
theorem good11:Good 11 k_2 false 2 2:=good_of (fun m=>by kernel_rfl) (fun m=>by kernel_rfl) (by decide) (fun m n h0=>by rw[many2];exact ifE) (fun m=>by kernel_rfl) (fun m=>by kernel_rfl) (fun m=>by kernel_rfl) (fun m=>by kernel_rfl) (fun m=>by kernel_rfl) (fun m=>by kernel_rfl) (fun m=>by kernel_rfl) (fun _=>rfl) (by decide)
theorem good12:Good 12 k_2 false 2 2:=good_of (fun m=>by kernel_rfl) (fun m=>by kernel_rfl) (by decide) (fun m n h0=>by rw[many2];exact ifE) (fun m=>by kernel_rfl) (fun m=>by kernel_rfl) (fun m=>by kernel_rfl) (fun m=>by kernel_rfl) (fun m=>by kernel_rfl) (fun m=>by kernel_rfl) (fun m=>by kernel_rfl) (fun _=>rfl) (by decide)
theorem good13:Good 13 k_2 false 2 2:=good_of (fun m=>by kernel_rfl) (fun m=>by kernel_rfl) (by decide) (fun m n h0=>by rw[many2];exact ifE) (fun m=>by kernel_rfl) (fun m=>by kernel_rfl) (fun m=>by kernel_rfl) (fun m=>by kernel_rfl) (fun m=>by kernel_rfl) (fun m=>by kernel_rfl) (fun m=>by kernel_rfl) (fun _=>rfl) (by decide)
theorem good14:Good 14 k_2 false 2 2:=good_of (fun m=>by kernel_rfl) (fun m=>by kernel_rfl) (by decide) (fun m n h0=>by rw[many2];exact ifE) (fun m=>by kernel_rfl) (fun m=>by kernel_rfl) (fun m=>by kernel_rfl) (fun m=>by kernel_rfl) (fun m=>by kernel_rfl) (fun m=>by kernel_rfl) (fun m=>by kernel_rfl) (fun _=>rfl) (by decide)
theorem good15:Good 15 k_2 false 2 2:=good_of (fun m=>by kernel_rfl) (fun m=>by kernel_rfl) (by decide) (fun m n h0=>by rw[many2];exact ifE) (fun m=>by kernel_rfl) (fun m=>by kernel_rfl) (fun m=>by kernel_rfl) (fun m=>by kernel_rfl) (fun m=>by kernel_rfl) (fun m=>by kernel_rfl) (fun m=>by kernel_rfl) (fun _=>rfl) (by decide)
theorem good16:Good 16 k_2 false 2 2:=good_of (fun m=>by kernel_rfl) (fun m=>by kernel_rfl) (by decide) (fun m n h0=>by rw[many2];exact ifE) (fun m=>by kernel_rfl) (fun m=>by kernel_rfl) (fun m=>by kernel_rfl) (fun m=>by kernel_rfl) (fun m=>by kernel_rfl) (fun m=>by kernel_rfl) (fun m=>by kernel_rfl) (fun _=>rfl) (by decide)
theorem good17:Good 17 k_2 false 2 2:=good_of (fun m=>by kernel_rfl) (fun m=>by kernel_rfl) (by decide) (fun m n h0=>by rw[many2];exact ifE) (fun m=>by kernel_rfl) (fun m=>by kernel_rfl) (fun m=>by kernel_rfl) (fun m=>by kernel_rfl) (fun m=>by kernel_rfl) (fun m=>by kernel_rfl) (fun m=>by kernel_rfl) (fun _=>rfl) (by decide)
theorem good18:Good 18 k_n6 false 0 6:=good_of (fun m=>by kernel_rfl) (fun m=>by kernel_rfl) (by decide) (fun m n h0=>by rw[manyn];exact ifL h0) (fun m=>by kernel_rfl) (fun m=>by kernel_rfl) (fun m=>by kernel_rfl) (fun m=>by kernel_rfl) (fun m=>by kernel_rfl) (fun m=>by kernel_rfl) (fun m=>by kernel_rfl) (fun _=>rfl) (by decide)
theorem good19:Good 19 k_tf6 false 0 6:=good_of (fun m=>by kernel_rfl) (fun m=>by kernel_rfl) (by decide) (fun m n h0=>by rw[manyt];exact ifL h0) (fun m=>by kernel_rfl) (fun m=>by kernel_rfl) (fun m=>by kernel_rfl) (fun m=>by kernel_rfl) (fun m=>by kernel_rfl) (fun m=>by kernel_rfl) (fun m=>by kernel_rfl) (fun _=>rfl) (by decide)
theorem good20:Good 20 k_tv9 false 0 1:=good_of (fun m=>by kernel_rfl) (fun m=>by kernel_rfl) (by decide) (fun m n h0=>by rw[manyv];exact ifL h0) (fun m=>by kernel_rfl) (fun m=>by kernel_rfl) (fun m=>by kernel_rfl) (fun m=>by kernel_rfl) (fun m=>by kernel_rfl) (fun m=>by kernel_rfl) (fun m=>by kernel_rfl) (fun _=>rfl) (by decide)
theorem good21:Good 21 k_1 false 1 1:=good_of (fun m=>by kernel_rfl) (fun m=>by kernel_rfl) (by decide) (fun m n h0=>by rw[many1];exact ifE) (fun m=>by kernel_rfl) (fun m=>by kernel_rfl) (fun m=>by kernel_rfl) (fun m=>by kernel_rfl) (fun m=>by kernel_rfl) (fun m=>by kernel_rfl) (fun m=>by kernel_rfl) (fun _=>rfl) (by decide)
theorem good22:Good 22 k_1 false 1 1:=good_of (fun m=>by kernel_rfl) (fun m=>by kernel_rfl) (by decide) (fun m n h0=>by rw[many1];exact ifE) (fun m=>by kernel_rfl) (fun m=>by kernel_rfl) (fun m=>by kernel_rfl) (fun m=>by kernel_rfl) (fun m=>by kernel_rfl) (fun m=>by kernel_rfl) (fun m=>by kernel_rfl) (fun _=>rfl) (by decide)
theorem good23:Good 23 k_1 false 1 1:=good_of (fun m=>by kernel_rfl) (fun m=>by kernel_rfl) (by decide) (fun m n h0=>by rw[many1];exact ifE) (fun m=>by kernel_rfl) (fun m=>by kernel_rfl) (fun m=>by kernel_rfl) (fun m=>by kernel_rfl) (fun m=>by kernel_rfl) (fun m=>by kernel_rfl) (fun m=>by kernel_rfl) (fun _=>rfl) (by decide)
theorem good24:Good 24 k_p0 true 0 0:=good_of (fun m=>by kernel_rfl) (fun m=>by kernel_rfl) (by decide) (fun m n h0=>by rw[manyp];exact ifE) (fun m=>by kernel_rfl) (fun m=>by kernel_rfl) (fun m=>by kernel_rfl) (fun m=>by kernel_rfl) (fun m=>by kernel_rfl) (fun m=>by kernel_rfl) (fun m=>by kernel_rfl) (fun h=>by omega) (by decide)
theorem good25:Good 25 k_p1 true 1 1:=good_of (fun m=>by kernel_rfl) (fun m=>by kernel_rfl) (by decide) (fun m n h0=>by rw[manyq];exact ifE) (fun m=>by kernel_rfl) (fun m=>by kernel_rfl) (fun m=>by kernel_rfl) (fun m=>by kernel_rfl) (fun m=>by kernel_rfl) (fun m=>by kernel_rfl) (fun m=>by kernel_rfl) (fun h=>by omega) (by decide)
theorem good26:Good 26 k_1 false 1 1:=good_of (fun m=>by kernel_rfl) (fun m=>by kernel_rfl) (by decide) (fun m n h0=>by rw[many1];exact ifE) (fun m=>by kernel_rfl) (fun m=>by kernel_rfl) (fun m=>by kernel_rfl) (fun m=>by kernel_rfl) (fun m=>by kernel_rfl) (fun m=>by kernel_rfl) (fun m=>by kernel_rfl) (fun _=>rfl) (by decide)
theorem good27:Good 27 k_1 false 1 1:=good_of (fun m=>by kernel_rfl) (fun m=>by kernel_rfl) (by decide) (fun m n h0=>by rw[many1];exact ifE) (fun m=>by kernel_rfl) (fun m=>by kernel_rfl) (fun m=>by kernel_rfl) (fun m=>by kernel_rfl) (fun m=>by kernel_rfl) (fun m=>by kernel_rfl) (fun m=>by kernel_rfl) (fun _=>rfl) (by decide)
theorem good28:Good 28 k_p0 true 0 0:=good_of (fun m=>by kernel_rfl) (fun m=>by kernel_rfl) (by decide) (fun m n h0=>by rw[manyp];exact ifE) (fun m=>by kernel_rfl) (fun m=>by kernel_rfl) (fun m=>by kernel_rfl) (fun m=>by kernel_rfl) (fun m=>by kernel_rfl) (fun m=>by kernel_rfl) (fun m=>by kernel_rfl) (fun h=>by omega) (by decide)
theorem good29:Good 29 k_1 false 1 1:=good_of (fun m=>by kernel_rfl) (fun m=>by kernel_rfl) (by decide) (fun m n h0=>by rw[many1];exact ifE) (fun m=>by kernel_rfl) (fun m=>by kernel_rfl) (fun m=>by kernel_rfl) (fun m=>by kernel_rfl) (fun m=>by kernel_rfl) (fun m=>by kernel_rfl) (fun m=>by kernel_rfl) (fun _=>rfl) (by decide)
theorem good30:Good 30 k_1 false 1 1:=good_of (fun m=>by kernel_rfl) (fun m=>by kernel_rfl) (by decide) (fun m n h0=>by rw[many1];exact ifE) (fun m=>by kernel_rfl) (fun m=>by kernel_rfl) (fun m=>by kernel_rfl) (fun m=>by kernel_rfl) (fun m=>by kernel_rfl) (fun m=>by kernel_rfl) (fun m=>by kernel_rfl) (fun _=>rfl) (by decide)
theorem good31:Good 31 k_1 false 1 1:=good_of (fun m=>by kernel_rfl) (fun m=>by kernel_rfl) (by decide) (fun m n h0=>by rw[many1];exact ifE) (fun m=>by kernel_rfl) (fun m=>by kernel_rfl) (fun m=>by kernel_rfl) (fun m=>by kernel_rfl) (fun m=>by kernel_rfl) (fun m=>by kernel_rfl) (fun m=>by kernel_rfl) (fun _=>rfl) (by decide)
theorem good32:Good 32 k_p0 true 0 0:=good_of (fun m=>by kernel_rfl) (fun m=>by kernel_rfl) (by decide) (fun m n h0=>by rw[manyp];exact ifE) (fun m=>by kernel_rfl) (fun m=>by kernel_rfl) (fun m=>by kernel_rfl) (fun m=>by kernel_rfl) (fun m=>by kernel_rfl) (fun m=>by kernel_rfl) (fun m=>by kernel_rfl) (fun h=>by omega) (by decide)
theorem good33:Good 33 k_p1 true 1 1:=good_of (fun m=>by kernel_rfl) (fun m=>by kernel_rfl) (by decide) (fun m n h0=>by rw[manyq];exact ifE) (fun m=>by kernel_rfl) (fun m=>by kernel_rfl) (fun m=>by kernel_rfl) (fun m=>by kernel_rfl) (fun m=>by kernel_rfl) (fun m=>by kernel_rfl) (fun m=>by kernel_rfl) (fun h=>by omega) (by decide)
theorem good34:Good 34 k_p1 true 1 1:=good_of (fun m=>by kernel_rfl) (fun m=>by kernel_rfl) (by decide) (fun m n h0=>by rw[manyq];exact ifE) (fun m=>by kernel_rfl) (fun m=>by kernel_rfl) (fun m=>by kernel_rfl) (fun m=>by kernel_rfl) (fun m=>by kernel_rfl) (fun m=>by kernel_rfl) (fun m=>by kernel_rfl) (fun h=>by omega) (by decide)
theorem good35:Good 35 k_p1 true 1 1:=good_of (fun m=>by kernel_rfl) (fun m=>by kernel_rfl) (by decide) (fun m n h0=>by rw[manyq];exact ifE) (fun m=>by kernel_rfl) (fun m=>by kernel_rfl) (fun m=>by kernel_rfl) (fun m=>by kernel_rfl) (fun m=>by kernel_rfl) (fun m=>by kernel_rfl) (fun m=>by kernel_rfl) (fun h=>by omega) (by decide)
theorem good36:Good 36 k_p0 true 0 0:=good_of (fun m=>by kernel_rfl) (fun m=>by kernel_rfl) (by decide) (fun m n h0=>by rw[manyp];exact ifE) (fun m=>by kernel_rfl) (fun m=>by kernel_rfl) (fun m=>by kernel_rfl) (fun m=>by kernel_rfl) (fun m=>by kernel_rfl) (fun m=>by kernel_rfl) (fun m=>by kernel_rfl) (fun h=>by omega) (by decide)
theorem good_all {z1:Int}(h0:0≤z1) (h1:z1<256):(∃f hp least most,Good z1 f hp least most)∨(Ev (fun n=>F132 n z1) ByteArray.empty∧∃hp a b,Ev (fun n=>F95 n z1) (hp,a,b,false)):=by
 by_cases hb:37≤z1
 ·right
  refine⟨.succ ?_,false,1,1,?_⟩
  ·simp only[F132,letF,wrap_i64' (show -9223372036854775808≤z1∧z1≤9223372036854775807 by omega),if_pos hb]
   simp only[L132_1,if_true];exact Ev.ret
  ·simp only[F95,if_neg (show ¬z1=1 by omega)]
   refine .succ ?_
   simp only[L95_1,Bool.false_eq_true,if_false,if_neg (show ¬z1=2 by omega)]
   refine .succ ?_
   simp only[L95_2,Bool.false_eq_true,if_false,if_neg (show ¬z1=3 by omega)]
   refine .succ ?_
   simp only[L95_3,Bool.false_eq_true,if_false,if_neg (show ¬z1=4 by omega)]
   refine .succ ?_
   simp only[L95_4,Bool.false_eq_true,if_false,if_neg (show ¬z1=5 by omega)]
   refine .succ ?_
   simp only[L95_5,Bool.false_eq_true,if_false,if_neg (show ¬z1=6 by omega)]
   refine .succ ?_
   simp only[L95_6,Bool.false_eq_true,if_false,if_neg (show ¬z1=24 by omega)]
   refine .succ ?_
   simp only[L95_7,Bool.false_eq_true,if_false,if_neg (show ¬z1=28 by omega)]
   refine .succ ?_
   simp only[L95_8,Bool.false_eq_true,if_false,if_neg (show ¬z1=32 by omega)]
   refine .succ ?_
   simp only[L95_9,Bool.false_eq_true,if_false,if_neg (show ¬z1=36 by omega)]
   refine .succ ?_
   simp only[L95_10,Bool.false_eq_true,if_false,if_neg (show ¬z1=25 by omega)]
   refine .succ ?_
   simp only[L95_11,Bool.false_eq_true,if_false,if_neg (show ¬z1=33 by omega)]
   refine .succ ?_
   simp only[L95_12,Bool.false_eq_true,if_false,if_neg (show ¬z1=34 by omega)]
   refine .succ ?_
   simp only[L95_13,Bool.false_eq_true,if_false,if_neg (show ¬z1=35 by omega)]
   refine .succ ?_
   simp only[L95_14,Bool.false_eq_true,if_false,if_neg (show ¬z1=18 by omega)]
   refine .succ ?_
   simp only[L95_15,Bool.false_eq_true,if_false,if_neg (show ¬z1=19 by omega)]
   refine .succ ?_
   simp only[L95_16,Bool.false_eq_true,if_false,if_neg (show ¬z1=20 by omega)]
   refine .succ ?_
   simp only[L95_17,Bool.false_eq_true,if_false,if_neg (show ¬z1=9 by omega)]
   refine .succ ?_
   simp only[L95_18,Bool.false_eq_true,if_false,if_neg (show ¬z1=10 by omega)]
   refine .succ ?_
   simp only[L95_19,Bool.false_eq_true,if_false,if_neg (show ¬z1=11 by omega)]
   refine .succ ?_
   simp only[L95_20,Bool.false_eq_true,if_false,if_neg (show ¬z1=12 by omega)]
   refine .succ ?_
   simp only[L95_21,Bool.false_eq_true,if_false,if_neg (show ¬z1=13 by omega)]
   refine .succ ?_
   simp only[L95_22,Bool.false_eq_true,if_false,if_neg (show ¬z1=14 by omega)]
   refine .succ ?_
   simp only[L95_23,Bool.false_eq_true,if_false,if_neg (show ¬z1=15 by omega)]
   refine .succ ?_
   simp only[L95_24,Bool.false_eq_true,if_false,if_neg (show ¬z1=16 by omega)]
   refine .succ ?_
   simp only[L95_25,Bool.false_eq_true,if_false,if_neg (show ¬z1=17 by omega)]
   refine .succ ?_
   simp only[L95_26,Bool.false_eq_true,if_false,if_pos (show 1≤z1 by omega),if_neg (show ¬z1≤36 by omega)];exact Ev.ret
 ·obtain⟨k,rfl⟩:∃k:Nat,z1=k:=⟨z1.toNat,by omega⟩
  have hk:k<37:=by omega
  clear h0 h1 hb
  match k,hk with
  | 0,_=>right;exact⟨evAt (fun m=>by kernel_rfl),false,1,1,evAt (fun m=>by kernel_rfl)⟩
  | 1,_=>left;exact⟨_,_,_,_,good1⟩
  | 2,_=>left;exact⟨_,_,_,_,good2⟩
  | 3,_=>left;exact⟨_,_,_,_,good3⟩
  | 4,_=>left;exact⟨_,_,_,_,good4⟩
  | 5,_=>left;exact⟨_,_,_,_,good5⟩
  | 6,_=>left;exact⟨_,_,_,_,good6⟩
  | 7,_=>left;exact⟨_,_,_,_,good7⟩
  | 8,_=>left;exact⟨_,_,_,_,good8⟩
  | 9,_=>left;exact⟨_,_,_,_,good9⟩
  | 10,_=>left;exact⟨_,_,_,_,good10⟩
  | 11,_=>left;exact⟨_,_,_,_,good11⟩
  | 12,_=>left;exact⟨_,_,_,_,good12⟩
  | 13,_=>left;exact⟨_,_,_,_,good13⟩
  | 14,_=>left;exact⟨_,_,_,_,good14⟩
  | 15,_=>left;exact⟨_,_,_,_,good15⟩
  | 16,_=>left;exact⟨_,_,_,_,good16⟩
  | 17,_=>left;exact⟨_,_,_,_,good17⟩
  | 18,_=>left;exact⟨_,_,_,_,good18⟩
  | 19,_=>left;exact⟨_,_,_,_,good19⟩
  | 20,_=>left;exact⟨_,_,_,_,good20⟩
  | 21,_=>left;exact⟨_,_,_,_,good21⟩
  | 22,_=>left;exact⟨_,_,_,_,good22⟩
  | 23,_=>left;exact⟨_,_,_,_,good23⟩
  | 24,_=>left;exact⟨_,_,_,_,good24⟩
  | 25,_=>left;exact⟨_,_,_,_,good25⟩
  | 26,_=>left;exact⟨_,_,_,_,good26⟩
  | 27,_=>left;exact⟨_,_,_,_,good27⟩
  | 28,_=>left;exact⟨_,_,_,_,good28⟩
  | 29,_=>left;exact⟨_,_,_,_,good29⟩
  | 30,_=>left;exact⟨_,_,_,_,good30⟩
  | 31,_=>left;exact⟨_,_,_,_,good31⟩
  | 32,_=>left;exact⟨_,_,_,_,good32⟩
  | 33,_=>left;exact⟨_,_,_,_,good33⟩
  | 34,_=>left;exact⟨_,_,_,_,good34⟩
  | 35,_=>left;exact⟨_,_,_,_,good35⟩
  | 36,_=>left;exact⟨_,_,_,_,good36⟩
  | n+37,h=>exact absurd h (by omega)
end Go.Proofs.YtjmofeakajdbiaaGreatDoor
end
namespace Go.AM
open Go
theorem Shape.row {ti:Types}{t:TypeId}{cs:List D}{y:TI}(h:Shape ti t cs) (hy:ti t=some y) (h1:rowD y.desc=true):cs.length=y.size∧∀c∈cs,c.isAgg=false:=by
 cases h with
 | struct ds h hd hl hg hr=>rw[hy]at h;cases h;exact⟨hl,hg⟩
 | bool b h hd=>rw[hy]at h;cases h;rw[hd]at h1;cases h1
 | int n h hd=>rw[hy]at h;cases h;rw[hd]at h1;cases h1
 | str s h hd=>rw[hy]at h;cases h;rw[hd]at h1;cases h1
 | slice rows h hd=>rw[hy]at h;cases h;rw[hd]at h1;cases h1
theorem Shape.cell {ti:Types}{t:TypeId}{cs:List D}{y:TI}(h:Shape ti t cs) (hy:ti t=some y) (h1:rowD y.desc=false):∃c,cs=[c]∧c.isAgg=false:=by
 cases h with
 | struct ds h hd hl hg hr=>rw[hy]at h;cases h;rw[hd]at h1;cases h1
 | bool b h hd=>exact⟨_,rfl,rfl⟩
 | int n h hd=>exact⟨_,rfl,rfl⟩
 | str s h hd=>exact⟨_,rfl,rfl⟩
 | slice rows h hd=>exact⟨_,rfl,rfl⟩
theorem RowS.fits {ti:Types}{e:TypeId}{r:D}{y:TI}(h1:TIone ti) (h:RowS ti e r) (hy:ti e=some y):r.fits (rowD y.desc) y.size:=by
 have ha:=h.2 y hy
 cases hr:rowD y.desc with
 | true=>
  obtain⟨q1,q2⟩:=h.1.row hy hr
  exact⟨by rw[ha,hr],q1,q2⟩
 | false=>
  obtain⟨c,q1,q2⟩:=h.1.cell hy hr
  exact⟨by rw[ha,hr],by rw[q1,h1 e y hy hr];rfl,by rw[q1];simpa using q2⟩
theorem ListS.nil {ti:Types}{e:TypeId}:ListS ti e []:=⟨Nat.zero_le _,by simp⟩
theorem ListS.cons {ti:Types}{e:TypeId}{x:D}{L:List D}(hx:RowS ti e x) (h:ListS ti e L) (hl:L.length+1≤maxLen):ListS ti e (x::L):=⟨by simpa using hl,fun y hy=>by
 rcases List.mem_cons.1 hy with rfl | hy
 ·exact hx
 ·exact h.2 y hy⟩
theorem ListS.one {ti:Types}{e:TypeId}{x:D}(hx:RowS ti e x):ListS ti e [x]:=.cons hx .nil (by simp[maxLen])
theorem ListS.set {ti:Types}{e:TypeId}{L:List D}(h:ListS ti e L) (i:Nat) {x:D}(hx:RowS ti e x):ListS ti e (L.set i x):=⟨by simpa using h.1,fun y hy=>by
 rcases List.mem_or_eq_of_mem_set hy with hy | rfl
 ·exact h.2 y hy
 ·exact hx⟩
theorem ListS.take {ti:Types}{e:TypeId}{L:List D}(h:ListS ti e L) (i:Nat):ListS ti e (L.take i):=⟨by have:=h.1;simp;omega,fun x hx=>h.2 x (List.mem_of_mem_take hx)⟩
theorem ListS.drop {ti:Types}{e:TypeId}{L:List D}(h:ListS ti e L) (i:Nat):ListS ti e (L.drop i):=⟨by have:=h.1;simp;omega,fun x hx=>h.2 x (List.mem_of_mem_drop hx)⟩
theorem Ev.bO3 {A1 A2 A3 γ:Type}{A:Nat→Option (A1×A2×A3)}{a1:A1}{a2:A2}{a3:A3}{k:Nat→A1→A2→A3→Option γ}{r:γ}(ha:Ev A (a1,a2,a3)) (hk:Ev (fun n=>k n a1 a2 a3) r):Ev (fun n=>bO3 (A n) (k n)) r:=by
 obtain⟨N,ha⟩:=ha
 obtain⟨M,hk⟩:=hk
 refine⟨N+M,fun n hn=>?_⟩
 show Go.AM.bO3 (A n) (k n)=some r
 rw[ha n (by omega)]
 exact hk n (by omega)
theorem Ev.bO4 {A1 A2 A3 A4 γ:Type}{A:Nat→Option (A1×A2×A3×A4)}{a1:A1}{a2:A2}{a3:A3}{a4:A4}{k:Nat→A1→A2→A3→A4→Option γ}{r:γ}(ha:Ev A (a1,a2,a3,a4)) (hk:Ev (fun n=>k n a1 a2 a3 a4) r):Ev (fun n=>bO4 (A n) (k n)) r:=by
 obtain⟨N,ha⟩:=ha
 obtain⟨M,hk⟩:=hk
 refine⟨N+M,fun n hn=>?_⟩
 show Go.AM.bO4 (A n) (k n)=some r
 rw[ha n (by omega)]
 exact hk n (by omega)
theorem Ev.bO7 {A1 A2 A3 A4 A5 A6 A7 γ:Type}{A:Nat→Option (A1×A2×A3×A4×A5×A6×A7)}{a1:A1}{a2:A2}{a3:A3}{a4:A4}{a5:A5}{a6:A6}{a7:A7}{k:Nat→A1→A2→A3→A4→A5→A6→A7→Option γ}{r:γ}(ha:Ev A (a1,a2,a3,a4,a5,a6,a7)) (hk:Ev (fun n=>k n a1 a2 a3 a4 a5 a6 a7) r):Ev (fun n=>bO7 (A n) (k n)) r:=by
 obtain⟨N,ha⟩:=ha
 obtain⟨M,hk⟩:=hk
 refine⟨N+M,fun n hn=>?_⟩
 show Go.AM.bO7 (A n) (k n)=some r
 rw[ha n (by omega)]
 exact hk n (by omega)
theorem Ev.bO10 {A1 A2 A3 A4 A5 A6 A7 A8 A9 A10 γ:Type}{A:Nat→Option (A1×A2×A3×A4×A5×A6×A7×A8×A9×A10)}{a1:A1}{a2:A2}{a3:A3}{a4:A4}{a5:A5}{a6:A6}{a7:A7}{a8:A8}{a9:A9}{a10:A10}{k:Nat→A1→A2→A3→A4→A5→A6→A7→A8→A9→A10→Option γ}{r:γ}(ha:Ev A (a1,a2,a3,a4,a5,a6,a7,a8,a9,a10)) (hk:Ev (fun n=>k n a1 a2 a3 a4 a5 a6 a7 a8 a9 a10) r):Ev (fun n=>bO10 (A n) (k n)) r:=by
 obtain⟨N,ha⟩:=ha
 obtain⟨M,hk⟩:=hk
 refine⟨N+M,fun n hn=>?_⟩
 show Go.AM.bO10 (A n) (k n)=some r
 rw[ha n (by omega)]
 exact hk n (by omega)
theorem Ev.bO14 {A1 A2 A3 A4 A5 A6 A7 A8 A9 A10 A11 A12 A13 A14 γ:Type}{A:Nat→Option (A1×A2×A3×A4×A5×A6×A7×A8×A9×A10×A11×A12×A13×A14)}{a1:A1}{a2:A2}{a3:A3}{a4:A4}{a5:A5}{a6:A6}{a7:A7}{a8:A8}{a9:A9}{a10:A10}{a11:A11}{a12:A12}{a13:A13}{a14:A14}{k:Nat→A1→A2→A3→A4→A5→A6→A7→A8→A9→A10→A11→A12→A13→A14→Option γ}{r:γ}(ha:Ev A (a1,a2,a3,a4,a5,a6,a7,a8,a9,a10,a11,a12,a13,a14)) (hk:Ev (fun n=>k n a1 a2 a3 a4 a5 a6 a7 a8 a9 a10 a11 a12 a13 a14) r):Ev (fun n=>bO14 (A n) (k n)) r:=by
 obtain⟨N,ha⟩:=ha
 obtain⟨M,hk⟩:=hk
 refine⟨N+M,fun n hn=>?_⟩
 show Go.AM.bO14 (A n) (k n)=some r
 rw[ha n (by omega)]
 exact hk n (by omega)
theorem Ev.bO15 {A1 A2 A3 A4 A5 A6 A7 A8 A9 A10 A11 A12 A13 A14 A15 γ:Type}{A:Nat→Option (A1×A2×A3×A4×A5×A6×A7×A8×A9×A10×A11×A12×A13×A14×A15)}{a1:A1}{a2:A2}{a3:A3}{a4:A4}{a5:A5}{a6:A6}{a7:A7}{a8:A8}{a9:A9}{a10:A10}{a11:A11}{a12:A12}{a13:A13}{a14:A14}{a15:A15}{k:Nat→A1→A2→A3→A4→A5→A6→A7→A8→A9→A10→A11→A12→A13→A14→A15→Option γ}{r:γ}(ha:Ev A (a1,a2,a3,a4,a5,a6,a7,a8,a9,a10,a11,a12,a13,a14,a15)) (hk:Ev (fun n=>k n a1 a2 a3 a4 a5 a6 a7 a8 a9 a10 a11 a12 a13 a14 a15) r):Ev (fun n=>bO15 (A n) (k n)) r:=by
 obtain⟨N,ha⟩:=ha
 obtain⟨M,hk⟩:=hk
 refine⟨N+M,fun n hn=>?_⟩
 show Go.AM.bO15 (A n) (k n)=some r
 rw[ha n (by omega)]
 exact hk n (by omega)
theorem Ev.bO16 {A1 A2 A3 A4 A5 A6 A7 A8 A9 A10 A11 A12 A13 A14 A15 A16 γ:Type}{A:Nat→Option (A1×A2×A3×A4×A5×A6×A7×A8×A9×A10×A11×A12×A13×A14×A15×A16)}{a1:A1}{a2:A2}{a3:A3}{a4:A4}{a5:A5}{a6:A6}{a7:A7}{a8:A8}{a9:A9}{a10:A10}{a11:A11}{a12:A12}{a13:A13}{a14:A14}{a15:A15}{a16:A16}{k:Nat→A1→A2→A3→A4→A5→A6→A7→A8→A9→A10→A11→A12→A13→A14→A15→A16→Option γ}{r:γ}(ha:Ev A (a1,a2,a3,a4,a5,a6,a7,a8,a9,a10,a11,a12,a13,a14,a15,a16)) (hk:Ev (fun n=>k n a1 a2 a3 a4 a5 a6 a7 a8 a9 a10 a11 a12 a13 a14 a15 a16) r):Ev (fun n=>bO16 (A n) (k n)) r:=by
 obtain⟨N,ha⟩:=ha
 obtain⟨M,hk⟩:=hk
 refine⟨N+M,fun n hn=>?_⟩
 show Go.AM.bO16 (A n) (k n)=some r
 rw[ha n (by omega)]
 exact hk n (by omega)
theorem Ev.bO18 {A1 A2 A3 A4 A5 A6 A7 A8 A9 A10 A11 A12 A13 A14 A15 A16 A17 A18 γ:Type}{A:Nat→Option (A1×A2×A3×A4×A5×A6×A7×A8×A9×A10×A11×A12×A13×A14×A15×A16×A17×A18)}{a1:A1}{a2:A2}{a3:A3}{a4:A4}{a5:A5}{a6:A6}{a7:A7}{a8:A8}{a9:A9}{a10:A10}{a11:A11}{a12:A12}{a13:A13}{a14:A14}{a15:A15}{a16:A16}{a17:A17}{a18:A18}{k:Nat→A1→A2→A3→A4→A5→A6→A7→A8→A9→A10→A11→A12→A13→A14→A15→A16→A17→A18→Option γ}{r:γ}(ha:Ev A (a1,a2,a3,a4,a5,a6,a7,a8,a9,a10,a11,a12,a13,a14,a15,a16,a17,a18)) (hk:Ev (fun n=>k n a1 a2 a3 a4 a5 a6 a7 a8 a9 a10 a11 a12 a13 a14 a15 a16 a17 a18) r):Ev (fun n=>bO18 (A n) (k n)) r:=by
 obtain⟨N,ha⟩:=ha
 obtain⟨M,hk⟩:=hk
 refine⟨N+M,fun n hn=>?_⟩
 show Go.AM.bO18 (A n) (k n)=some r
 rw[ha n (by omega)]
 exact hk n (by omega)
end Go.AM
namespace Go.AM
open Go Go.RowKit Go.ChangeShapes Go.WideShapes
def Shapes (ti:Types):List TypeId→List D→Prop
 | [],[]=>True
 | t::ts,x::xs=>Shape ti t x.cells∧(∀y,ti t=some y→x.isAgg=rowD y.desc)∧Shapes ti ts xs
 | _,_=>False
theorem Shapes.length {ti:Types}:∀{ts:List TypeId}{xs:List D},Shapes ti ts xs→xs.length=ts.length
 | [],[],_=>rfl
 | _::_,_::_,h=>by simp[Shapes.length h.2.2]
 | [],_::_,h=>h.elim
 | _::_,[],h=>h.elim
section
variable {H:Type}{enc:TypeId×Value→H}{P:Program}{ti:Types}{T:List TypeId}{w:World}
theorem conv_arg (hti:TIok P ti) (hT:plainB ti T=true) {Z:Zone}(hZ:∀b o,¬Z b o) {base base':Nat}{spare:Nat→Bool}{held:Bool}{r:Reach}{t:TypeId}{v:Value}{d:DataW H}{ps:List MemPlace}(ht:t∈T)
  (hok:Value.okWide P w r base' t v) (h:DataW.Trod enc P w base spare held t v d ps):∃x:D,Shape ti t x.cells∧(∀y,ti t=some y→x.isAgg=rowD y.desc)∧RelD w Z x v:=by
 obtain⟨fuel,h⟩:=h
 obtain⟨ds,hs,h1,h2,h3⟩:=conv hti hT (Z:=Z) hZ fuel t _ _ _ ht h
 have hp:=List.all_eq_true.1 hT t ht
 split at hp
 ·rename_i y hy
  have hu:=(hti t y hy).1
  have single:rowD y.desc=false→v.cells.toList=[v]→∃x:D,Shape ti t x.cells∧(∀y,ti t=some y→x.isAgg=rowD y.desc)∧RelD w Z x v:=by
   intro hr hv
   rw[hv]at h1 h3
   obtain⟨c,rfl⟩:=List.length_eq_one_iff.1 h1
   have hc:=h2 c (by simp)
   have e:c.cells=[c]:=by cases c<;>first | rfl | simp[D.isAgg]at hc
   refine⟨c,by rw[e];exact hs,fun y' hy'=>?_,h3 0 c v rfl rfl⟩
   rw[hy]at hy'
   obtain rfl:y=y':=by simpa using hy'
   rw[hc,hr]
  split at hp
  ·rename_i hd
   rw[hd]at hu
   obtain⟨b,rfl⟩:=okWide_bool hu hok
   exact single (by rw[hd];rfl) rfl
  ·rename_i k hd
   rw[hd]at hu
   obtain⟨b,rfl⟩:=okWide_int hu hok
   exact single (by rw[hd];rfl) rfl
  ·rename_i hd
   rw[hd]at hu
   obtain⟨b,rfl⟩:=okWide_string hu hok
   exact single (by rw[hd];rfl) rfl
  ·rename_i e hd
   rw[hd]at hu
   obtain⟨a,l,c,rfl⟩:=okWide_slice hu hok
   exact single (by rw[hd];rfl) rfl
  ·rename_i fs hd
   rw[hd]at hu
   obtain⟨cs,rfl,_⟩:=okWide_struct hu hok
   refine⟨.agg ds,hs,fun y' hy'=>?_,.agg ds cs (by simpa [Value.cells] using h1.symm) h2 (fun j c u hc hu'=>h3 j c u hc (by simpa [Value.cells] using hu'))⟩
   rw[hy]at hy'
   obtain rfl:y=y':=by simpa using hy'
   rw[hd];rfl
  ·simp at hp
 ·simp at hp
theorem conv_args (hti:TIok P ti) (hT:plainB ti T=true) {Z:Zone}(hZ:∀b o,¬Z b o) {base base':Nat}{spare:Nat→Bool}{held:Bool}{r:Reach}:
  ∀(ts:List TypeId) (vs:List Value) (ds:List (DataW H)) (ps:List MemPlace),(∀t∈ts,t∈T)→DataW.TrodAll enc P w base spare held ts vs ds ps→
   (∀(j:Nat) t v,ts[j]?=some t→vs[j]?=some v→Value.okWide P w r base' t v)→
   ∃xs,Shapes ti ts xs∧∀(j:Nat) x v,xs[j]?=some x→vs[j]?=some v→RelD w Z x v
 | [],vs,ds,ps,_,h,_=>⟨[],trivial,by simp⟩
 | t::ts,vs,ds,ps,ht,h,hok=>by
  obtain⟨v,vs1,d,ds1,a,b,rfl,rfl,rfl,h1,h2⟩:=trodAll_cons h
  obtain⟨x,k1,k2,k3⟩:=conv_arg hti hT hZ (ht t (by simp)) (hok 0 t v rfl rfl) h1
  obtain⟨xs,k4,k5⟩:=conv_args hti hT hZ ts vs1 ds1 b (fun t ht'=>ht t (by simp[ht'])) h2 (fun j t v h1 h2=>hok (j+1) t v (by simpa using h1) (by simpa using h2))
  refine⟨x::xs,⟨k1,k2,k4⟩,fun j x' v' hx hv=>?_⟩
  match j with
  | 0=>simp at hx hv;subst hx;subst hv;exact k3
  | j+1=>simp at hx hv;exact k5 j x' v' hx hv
theorem again_all (hl:laidOutB P=true) {W W':World}(hb:Below W.heap.size W W'):∀(ts:List TypeId) (vs:List Value) (ds:List (DataW H)) (ps:List MemPlace),
  (∀t∈ts,P.readableRec t=true∧t<P.types.size)→DataW.TrodAll enc P W 0 (fun _=>true) true ts vs ds ps→(∀x∈ps,x.block<W.heap.size)→
  DataW.TrodAll enc P W' 0 (fun b=>decide (b<W.heap.size)) true ts vs ds ps
 | [],vs,ds,ps,_,h,_=>by
  obtain⟨rfl,rfl,rfl⟩:=trodAll_nil h
  exact rfl
 | t::ts,vs,ds,ps,ht,h,hlt=>by
  obtain⟨v,vs1,d,ds1,a,b,rfl,rfl,rfl,h1,h2⟩:=trodAll_cons h
  have ht1:=ht t (by simp)
  exact⟨a,b,Below.trod hl ht1.1 ht1.2 h1 hb (fun x hx=>hlt x (by simp[hx])),again_all hl hb ts vs1 ds1 b (fun t ht'=>ht t (by simp[ht'])) h2 (fun x hx=>hlt x (by simp[hx])),rfl⟩
theorem law_calls {I:Inv}(hti:TIok P ti) (hT:plainB ti T=true) {s:ChangeSpec}{fn:Func}{f:FuncId}{ts:List TypeId}{bt:TypeId}
  (hp:fn.params.toList=ts) (hv:s.vars=[]) (hr:fn.resultTypes=#[bt]) (hb:P.underlying bt=some .bool) (htT:∀t∈ts,t∈T)
  (hs:∀ds:List (DataW H),ds.length=ts.length→(s.fn H ds).results=[.lit (.bool true)]∧(s.fn H ds).args=ds∧(s.fn H ds).vars=[])
  (hl:laidOutB P=true) (hrec:∀t∈ts,P.readableRec t=true∧t<P.types.size)
  (hc:∀xs:List D,Shapes ti ts xs→Trip P I f (xs.map V1.d) [] (.v (.d (.bool true))) [] [])
  {W:World} {base:Nat} {args:Array Value} {ds gs:List (DataW H)} {before:List MemPlace}
  (hI:I.at W fun _ _=>False) (hval:∀(j:Nat) t v,fn.params[j]?=some t→args[j]?=some v→Value.okWide P W .any base t v)
  (hW:DataW.Whole enc P fn.params.toList s.vars false W args.toList ds gs before):
  Calls P f args W fun e W'=>∃v,e= .returned v∧s.post enc P fn false true false false W args v W':=by
 have hW':=hW
 obtain⟨p,q,hA,hV,rfl,_,_⟩:=hW
 rw[hv]at hV
 obtain⟨rfl,rfl⟩:gs=[]∧q=[]:=by
  cases gs with
  | nil=>exact⟨rfl,hV⟩
  | cons _ _=>exact hV.elim
 rw[hp]at hA
 obtain⟨hlen,hdl⟩:=trodAll_length hA
 obtain⟨xs,hsh,hrel⟩:=conv_args hti hT (Z:=fun _ _=>False) (fun _ _ h=>h) (r:=.any) (base':=base) ts args.toList ds p htT hA (fun j t v h1 h2=>hval j t v (by
  rw[←Array.getElem?_toList,hp];exact h1) (by simpa using h2))
 have hxl:=hsh.length
 have hcall:=hc xs hsh
 have hheap:∀i o,heapOf [] i=some o→False:=by
  intro i o h
  cases i<;>simp[heapOf]at h
 have hzone:∀(g:Ghost) b o,¬zone g (heapOf []) b o:=by
  rintro g b o ⟨i,ob,h,_⟩
  exact hheap i ob h
 refine (hcall.calls (w:=W) (X:=fun _ _=>False) (g:=fun _=>undef) (vals:=args) (fun _ _ h=>h.elim) (hI.mono fun b o hz=>hz.elim (hzone _ b o) id) ⟨fun i o h=>(hheap i o h).elim,fun i _ _ _ _ h=>(hheap i _ h).elim,fun i _ _ _ h=>(hheap i _ h).elim⟩ (fun _=>rfl)
  (by simp at hlen;simp;omega) (fun j x v hx hvv=>?_)).mono ?_
 ·simp only[List.getElem?_map,Option.map_eq_some_iff]at hx
  obtain⟨d,hd,rfl⟩:=hx
  exact (hrel j d v hd (by simpa using hvv)).mono (fun b o u hu _=>⟨hu,fun hz=>hz.elim (hzone _ b o) id⟩)
 ·rintro e W' ⟨v,g',rfl,hpost⟩
  obtain rfl:v= .bool true:=by cases (show RelD _ _ (.bool true) v from hpost.res);rfl
  have hbel:Below W.heap.size W W':=⟨hpost.frame.os,hpost.frame.tape,hpost.frame.output,hpost.frame.size,fun k hk=>hpost.frame.block k hk (fun o=>hzone _ k o)⟩
  obtain⟨s1,s2,s3⟩:=hs (ds++[]) (by simp[hdl])
  refine⟨_,rfl,ds,[],p++[],[],p,[],hW',?_,?_,?_,hbel.frame _,fun h=>by cases h⟩
  ·rw[s1,hr]
   exact trodAll_mk1 (shut_bool hb true)
  ·rw[s2,hp,List.append_nil]
   exact again_all hl hbel ts args.toList ds p hrec hA (fun x hx=>hW'.lt x (by simp[hx]))
  ·rw[s3,hv];rfl
end
end Go.AM
set_option linter.unusedVariables false
noncomputable section
namespace Go.Proofs.YtjmofeakajdbiaaGreatDoor
open Go Go.AM
abbrev emp (s:ByteArray):Bool:=decide (s=ByteArray.empty)
def intB (z1 z2:Int):Bool:=if z1=1 then decide (0≤z2)else if z1=2 then decide (z2=0) || decide (z2=1)else decide (z2=0)
def nameB (z1:Int) (s:ByteArray):Bool:=if z1=18 then nm 97 122 s else if z1=19∨z1=20 then nm 65 90 s else emp s
def secB (z1:Int) (s:ByteArray):Bool:=if z1=20 then nm 65 90 s else emp s
def fldB (s:ByteArray) (l6 l7:List D):Bool:=emp s&&(decide (l6.length=l7.length)&&l6.all nmB)
def placB (z1:Int) (hp:Bool) (s:ByteArray) (l6 l7:List D):Bool:=if hp=true then plB s l6 else if z1=19 then fldB s l6 l7 else emp s&&decide (l6.length=0)
section
variable {z1 z2:Int}{s3 s4 s5:ByteArray}{l6 l7:List D}{z8:Int}
theorem ev59 (h3:s3.size≤maxLen) (h4:s4.size≤maxLen):Ev (fun n=>F96 n z1 z2 s3 s4 s5 l6 l7 z8) (nameB z1 s3&&(secB z1 s4&&intB z1 z2)):=by
 have e7:∀a b c,Ev (fun n=>L96_7 n a b c) (a&&(b&&c)):=fun a b c=>.succ (by cases a<;>cases b<;>simp only[L96_7,if_true,Bool.false_eq_true,if_false]<;>exact Ev.ret)
 have main:Ev (fun n=>L96_1 n z1 z2 s3 s4 (emp s3) (emp s4) (decide (z2=0))) (nameB z1 s3&&(secB z1 s4&&intB z1 z2)):=by
  refine .succ ?_
  by_cases c1:z1=1
  ·subst c1
   simp only[L96_1,if_true]
   refine .succ ?_
   simp only[L96_2,if_true,nameB,secB,intB,show ¬(1:Int)=18 by decide,show ¬((1:Int)=19∨(1:Int)=20)by decide,show ¬(1:Int)=20 by decide,if_false]
   by_cases c:0≤z2
   ·simp only[if_pos c,decide_eq_true c];exact e7 _ _ _
   ·simp only[if_neg c,decide_eq_false c];exact e7 _ _ _
  simp only[L96_1,if_neg c1]
  refine .succ ?_
  by_cases c2:z1=2
  ·subst c2
   simp only[L96_2,Bool.false_eq_true,if_false,if_true]
   refine .succ ?_
   simp only[L96_3,if_true,nameB,secB,intB,show ¬(2:Int)=18 by decide,show ¬((2:Int)=19∨(2:Int)=20)by decide,show ¬(2:Int)=20 by decide,show ¬(2:Int)=1 by decide,if_false]
   by_cases c:z2=0
   ·simp only[if_pos c,decide_eq_true c,Bool.true_or];exact e7 _ _ _
   ·by_cases d:z2=1
    ·simp only[if_neg c,if_pos d,decide_eq_false c,decide_eq_true d,Bool.false_or];exact e7 _ _ _
    ·simp only[if_neg c,if_neg d,decide_eq_false c,decide_eq_false d,Bool.false_or];exact e7 _ _ _
  simp only[L96_2,Bool.false_eq_true,if_false,if_neg c2]
  refine .succ ?_
  have ei:intB z1 z2=decide (z2=0):=by simp only[intB,if_neg c1,if_neg c2]
  rw[ei]
  by_cases c3:z1=18
  ·subst c3
   simp only[L96_3,Bool.false_eq_true,if_false,if_true]
   refine .succ ?_
   simp only[L96_4,if_true,nameB,secB,show ¬(18:Int)=20 by decide,if_false]
   exact Ev.bO1 (ev13 h3) (e7 _ _ _)
  simp only[L96_3,Bool.false_eq_true,if_false,if_neg c3]
  refine .succ ?_
  by_cases c4:z1=19
  ·subst c4
   simp only[L96_4,Bool.false_eq_true,if_false,if_true]
   refine .succ ?_
   simp only[L96_5,if_true,nameB,secB,show ¬(19:Int)=18 by decide,show ¬(19:Int)=20 by decide,if_false,true_or]
   exact Ev.bO1 (ev15 h3) (e7 _ _ _)
  simp only[L96_4,Bool.false_eq_true,if_false,if_neg c4]
  refine .succ ?_
  by_cases c5:z1=20
  ·subst c5
   simp only[L96_5,Bool.false_eq_true,if_false,if_true]
   refine .succ ?_
   simp only[L96_6,if_true,nameB,secB,show ¬(20:Int)=18 by decide,if_false,or_true]
   exact Ev.bO1 (ev15 h3) (Ev.bO1 (ev15 h4) (e7 _ _ _))
  simp only[L96_5,Bool.false_eq_true,if_false,if_neg c5]
  refine .succ ?_
  simp only[L96_6,Bool.false_eq_true,if_false,nameB,secB,if_neg c3,if_neg (show ¬(z1=19∨z1=20)from fun h=>h.elim c4 c5),if_neg c5]
  exact e7 _ _ _
 unfold F96
 by_cases a:s3=ByteArray.empty<;>by_cases b:s4=ByteArray.empty<;>by_cases c:z2=0<;>simp only[a,b,c,if_true,if_false]<;>simpa only[a,b,c,emp,decide_true,decide_false] using main
theorem ev60 (h5:s5.size≤maxLen) (h6:ListS tab 9 l6) (hp:Bool):Ev (fun n=>F97 n z1 z2 s3 s4 s5 l6 l7 z8 hp) (if hp=true then plB s5 l6 else if z1=19 then fldB s5 l6 l7&&decide (l6.length≤6)else emp s5&&decide (l6.length=0)):=by
 unfold F97
 cases hp
 ·simp only[Bool.false_eq_true,if_false]
  by_cases c:z1=19
  ·simp only[if_pos c]
   refine .succ ?_
   simp only[L97_1,if_true,fldB]
   by_cases e:s5=ByteArray.empty
   ·simp only[if_pos e,lenF,decide_eq_true e,Bool.true_and]
    by_cases e2:l6.length=l7.length
    ·simp only[if_pos (show (l6.length:Int)=(l7.length:Int)by omega),decide_eq_true e2,Bool.true_and]
     exact Ev.bO1 (ev44x h6 6) Ev.ret
    ·simp only[if_neg (show ¬(l6.length:Int)=(l7.length:Int)by omega),decide_eq_false e2,Bool.false_and];exact Ev.ret
   ·simp only[if_neg e,decide_eq_false e,Bool.false_and];exact Ev.ret
  ·simp only[if_neg c]
   refine .succ ?_
   simp only[L97_1,Bool.false_eq_true,if_false,F126]
   refine Ev.bO1 (a:=emp s5&&decide (l6.length=0)) ?_ Ev.ret
   by_cases e:s5=ByteArray.empty
   ·simp only[if_pos e,lenF,decide_eq_true e,Bool.true_and]
    by_cases e2:l6.length=0
    ·simp only[if_pos (show (l6.length:Int)=0 by omega),decide_eq_true e2];exact Ev.ret
    ·simp only[if_neg (show ¬(l6.length:Int)=0 by omega),decide_eq_false e2];exact Ev.ret
   ·simp only[if_neg e,decide_eq_false e,Bool.false_and];exact Ev.ret
 ·simp only[if_true];exact Ev.bO1 (ev24 h5 h6) Ev.ret
theorem ev43 (h6:ListS tab 9 l6):Ev (fun n=>F136 n z1 z2 s3 s4 s5 l6 l7 z8) (fldB s5 l6 l7):=by
 have loop:∀i,i≤l6.length→Ev (fun n=>L136_2 n l6 (i:Int)) ((l6.drop i).all nmB):=by
  refine down l6.length (Ev.succ ?_) (fun i hi ih=>?_)
  ·simp only[L136_2,lenF,Int.lt_irrefl,if_false,List.drop_length]
   exact Ev.succ (by simp only[L136_3,Bool.false_eq_true,if_false];exact Ev.ret)
  ·obtain⟨x,hx,_,hr⟩:=h6.get hi
   obtain⟨s,rfl,hs⟩:=rs9 hr
   rw[all_drop hx]
   refine Ev.succ ?_
   simp only[L136_2,lenF,if_pos (show (i:Int)<(l6.length:Int)by omega)]
   refine Ev.succ ?_
   simp only[L136_3,if_true,getF_nat hx,ds_str,nmB]
   refine Ev.bO1 (ev14 hs) ?_
   cases nm 97 122 s
   ·simp only[letB,Bool.not_false,if_true,Bool.false_and];exact Ev.ret
   ·simp only[letB,Bool.not_true,Bool.false_eq_true,if_false,letF,wrap_succ hi h6.1,Bool.true_and];exact ih
 have no:Ev (fun n=>L136_1 n l6 true) false:=Ev.succ (by simp only[L136_1,if_true];exact Ev.ret)
 unfold F136 fldB
 by_cases e:s5=ByteArray.empty
 ·simp only[if_pos e,lenF,decide_eq_true e,Bool.true_and]
  by_cases e2:l6.length=l7.length
  ·simp only[if_pos (show (l6.length:Int)=(l7.length:Int)by omega),decide_eq_true e2,Bool.true_and]
   exact Ev.succ (by simp only[L136_1,Bool.false_eq_true,if_false];exact loop 0 (Nat.zero_le _))
  ·simp only[if_neg (show ¬(l6.length:Int)=(l7.length:Int)by omega),decide_eq_false e2,Bool.false_and];exact no
 ·simp only[if_neg e,decide_eq_false e,Bool.false_and];exact no
variable {f:ByteArray}{hp:Bool}{least most:Int}(G:Good z1 f hp least most) {deep:Int}{A:Bool}
theorem g9 (hA:Ev (fun n=>L84_10 n z1 l7 deep (0:Int)) A) (b:Bool):Ev (fun n=>L84_9 n z1 l7 deep (!b)) (b&&A):=by
 refine .succ ?_
 cases b
 ·simp only[L84_9,Bool.not_false,if_true,Bool.false_and];exact Ev.ret
 ·simp only[L84_9,Bool.not_true,Bool.false_eq_true,if_false,Bool.true_and];exact hA
include G
theorem g8 (h4:s4.size≤maxLen) (hA:Ev (fun n=>L84_10 n z1 l7 deep (0:Int)) A) (b:Bool):Ev (fun n=>L84_8 n z1 s4 l7 deep f (!b)) (b&&(secB z1 s4&&A)):=by
 have k9:=g9 hA
 refine .succ ?_
 cases b
 ·simp only[L84_8,Bool.not_false,if_true,Bool.false_and];exact Ev.ret
 simp only[L84_8,Bool.not_true,Bool.false_eq_true,if_false,Bool.true_and]
 refine Ev.bO1 G.hv ?_
 by_cases c:z1=20
 ·simp only[decide_eq_true c,if_true,secB,if_pos c]
  refine Ev.bO1 (ev16 h4) ?_
  cases nm 65 90 s4
  ·simp only[letB,Bool.not_false,if_true];exact k9 false
  ·simp only[letB,Bool.not_true,Bool.false_eq_true,if_false]
   refine Ev.bO1 G.hv ?_
   simp only[decide_eq_true c,letB,Bool.not_true,Bool.false_eq_true,if_false];exact k9 true
 ·simp only[decide_eq_false c,Bool.false_eq_true,if_false,secB,if_neg c]
  refine Ev.bO1 G.hv ?_
  simp only[decide_eq_false c,letB,Bool.not_false,if_true]
  by_cases e:s4=ByteArray.empty
  ·simp only[if_pos e,emp,decide_eq_true e];exact k9 true
  ·simp only[if_neg e,emp,decide_eq_false e];exact k9 false
theorem g7 (h3:s3.size≤maxLen) (h4:s4.size≤maxLen) (hA:Ev (fun n=>L84_10 n z1 l7 deep (0:Int)) A):Ev (fun n=>L84_7 n z1 s3 s4 l7 deep f) (nameB z1 s3&&(secB z1 s4&&A)):=by
 have k8:=g8 G h4 hA
 refine .succ ?_
 simp only[L84_7]
 refine Ev.bO1 G.hn ?_
 by_cases c:z1=18
 ·have ct:¬(z1=19∨z1=20):=by omega
  simp only[decide_eq_true c,if_true,nameB,if_pos c]
  refine Ev.bO1 (ev14 h3) ?_
  cases nm 97 122 s3
  ·simp only[letB,Bool.not_false,if_true];exact k8 false
  ·simp only[letB,Bool.not_true,Bool.false_eq_true,if_false]
   refine Ev.bO1 G.ht ?_
   simp only[decide_eq_false ct,Bool.false_eq_true,if_false]
   refine Ev.bO1 G.hn ?_
   simp only[decide_eq_true c,letB,Bool.not_true,Bool.false_eq_true,if_false];exact k8 true
 simp only[decide_eq_false c,Bool.false_eq_true,if_false,nameB,if_neg c]
 refine Ev.bO1 G.ht ?_
 by_cases ct:z1=19∨z1=20
 ·simp only[decide_eq_true ct,if_true,if_pos ct]
  refine Ev.bO1 (ev16 h3) ?_
  cases nm 65 90 s3
  ·simp only[letB,Bool.not_false,if_true];exact k8 false
  ·simp only[letB,Bool.not_true,Bool.false_eq_true,if_false]
   refine Ev.bO1 G.hn ?_
   simp only[decide_eq_false c,letB,Bool.not_false,if_true]
   refine Ev.bO1 G.ht ?_
   simp only[decide_eq_true ct,letB,Bool.not_true,Bool.false_eq_true,if_false];exact k8 true
 ·simp only[decide_eq_false ct,Bool.false_eq_true,if_false,if_neg ct]
  refine Ev.bO1 G.hn ?_
  simp only[decide_eq_false c,letB,Bool.not_false,if_true]
  refine Ev.bO1 G.ht ?_
  simp only[decide_eq_false ct,letB,Bool.not_false,if_true]
  by_cases e:s3=ByteArray.empty
  ·simp only[if_pos e,emp,decide_eq_true e];exact k8 true
  ·simp only[if_neg e,emp,decide_eq_false e];exact k8 false
theorem g5 (h3:s3.size≤maxLen) (h4:s4.size≤maxLen) (h5:s5.size≤maxLen) (h6:ListS tab 9 l6) (hA:Ev (fun n=>L84_10 n z1 l7 deep (0:Int)) A):
  Ev (fun n=>L84_5 n z1 z2 s3 s4 s5 l6 l7 z8 deep f) (placB z1 hp s5 l6 l7&&(nameB z1 s3&&(secB z1 s4&&A))):=by
 have k7:=g7 G h3 h4 hA
 refine .succ ?_
 simp only[L84_5]
 refine Ev.bO1 G.h112 ?_
 cases hp
 ·simp only[Bool.false_eq_true,if_false,placB]
  refine Ev.bO1 G.hf ?_
  by_cases c:z1=19
  ·simp only[decide_eq_true c,if_true,if_pos c]
   refine Ev.bO1 (ev43 h6) ?_
   cases fldB s5 l6 l7
   ·simp only[letB,Bool.not_false,if_true,Bool.false_and];exact Ev.ret
   ·simp only[letB,Bool.not_true,Bool.false_eq_true,if_false,Bool.true_and];exact k7
  ·simp only[decide_eq_false c,Bool.false_eq_true,if_false,if_neg c]
   have k6:∀b,Ev (fun n=>L84_6 n z1 s3 s4 l7 deep f (!b)) (b&&(nameB z1 s3&&(secB z1 s4&&A))):=by
    intro b
    refine .succ ?_
    cases b
    ·simp only[L84_6,Bool.not_false,if_true,Bool.false_and];exact Ev.ret
    ·simp only[L84_6,Bool.not_true,Bool.false_eq_true,if_false,Bool.true_and];exact k7
   by_cases e:s5=ByteArray.empty
   ·simp only[if_pos e,emp,decide_eq_true e,Bool.true_and,lenF]
    by_cases e2:l6.length=0
    ·simp only[if_neg (show ¬0<(l6.length:Int)by omega),decide_eq_true e2];exact k6 true
    ·simp only[if_pos (show 0<(l6.length:Int)by omega),decide_eq_false e2];exact k6 false
   ·simp only[if_neg e,emp,decide_eq_false e,Bool.false_and];exact k6 false
 ·simp only[if_true,placB]
  refine Ev.bO1 (ev25 h5 h6) ?_
  cases plB s5 l6
  ·simp only[letB,Bool.not_false,if_true,Bool.false_and];exact Ev.ret
  ·simp only[letB,Bool.not_true,Bool.false_eq_true,if_false,Bool.true_and];exact k7
theorem g1 (h3:s3.size≤maxLen) (h4:s4.size≤maxLen) (h5:s5.size≤maxLen) (h6:ListS tab 9 l6) (hA:Ev (fun n=>L84_10 n z1 l7 deep (0:Int)) A):
  Ev (fun n=>L84_1 n z1 z2 s3 s4 s5 l6 l7 z8 deep f false) (intB z1 z2&&(placB z1 hp s5 l6 l7&&(nameB z1 s3&&(secB z1 s4&&A)))):=by
 have k5:=g5 (z2:=z2) (z8:=z8) G h3 h4 h5 h6 hA
 refine .succ ?_
 simp only[L84_1,Bool.false_eq_true,if_false]
 refine Ev.bO1 G.hi ?_
 by_cases c1:z1=1
 ·simp only[decide_eq_true c1,if_true,intB,if_pos c1]
  by_cases c:0≤z2
  ·simp only[if_neg (show ¬z2<0 by omega),decide_eq_true c,Bool.true_and]
   exact .succ (by simp only[L84_2,Bool.false_eq_true,if_false];exact k5)
  ·simp only[if_pos (show z2<0 by omega),decide_eq_false c,Bool.false_and]
   exact .succ (by simp only[L84_2,if_true];exact Ev.ret)
 simp only[decide_eq_false c1,Bool.false_eq_true,if_false,intB,if_neg c1]
 refine Ev.bO1 G.hb ?_
 by_cases c2:z1=2
 ·simp only[decide_eq_true c2,if_true,if_pos c2]
  have y:Ev (fun n=>L84_3 n z1 z2 s3 s4 s5 l6 l7 z8 deep f false) (placB z1 hp s5 l6 l7&&(nameB z1 s3&&(secB z1 s4&&A))):=.succ (by simp only[L84_3,Bool.false_eq_true,if_false];exact k5)
  by_cases c:z2=0
  ·simp only[if_pos c,decide_eq_true c,Bool.true_or,Bool.true_and];exact y
  ·by_cases d:z2=1
   ·simp only[if_neg c,if_pos d,decide_eq_true d,Bool.or_true,Bool.true_and];exact y
   ·simp only[if_neg c,if_neg d,decide_eq_false c,decide_eq_false d,Bool.or_false,Bool.false_and]
    exact .succ (by simp only[L84_3,if_true];exact Ev.ret)
 ·simp only[decide_eq_false c2,Bool.false_eq_true,if_false,if_neg c2]
  by_cases c:z2=0
  ·simp only[if_pos c,decide_eq_true c,Bool.true_and]
   exact .succ (by simp only[L84_4,Bool.false_eq_true,if_false];exact k5)
  ·simp only[if_neg c,decide_eq_false c,Bool.false_and]
   exact .succ (by simp only[L84_4,if_true];exact Ev.ret)
end
theorem ex_agree (l:List D):ListS tab 39 l→∀z1 z2 (s3 s4 s5:ByteArray) l6 z8 deep,0≤z1→z1<256→s3.size≤maxLen→s4.size≤maxLen→s5.size≤maxLen→ListS tab 9 l6→0≤deep→deep≤40→
  Agree (fun n=>F54 n z1 z2 s3 s4 s5 l6 l z8 deep) (fun n=>F84 n z1 z2 s3 s4 s5 l6 l z8 deep):=by
 refine list_ind (P:=fun l=>ListS tab 39 l→∀z1 z2 (s3 s4 s5:ByteArray) l6 z8 deep,0≤z1→z1<256→s3.size≤maxLen→s4.size≤maxLen→s5.size≤maxLen→ListS tab 9 l6→0≤deep→deep≤40→
  Agree (fun n=>F54 n z1 z2 s3 s4 s5 l6 l z8 deep) (fun n=>F84 n z1 z2 s3 s4 s5 l6 l z8 deep)) (fun l ih h z1 z2 s3 s4 s5 l6 z8 deep h0 h1 h3 h4 h5 h6 d0 d40=>?_) l
 have no39:∀m,Ev (fun n=>L54_1 n z1 z2 s3 s4 s5 l6 l z8 deep m true) false:=fun m=>.succ (by simp only[L54_1,if_true];exact Ev.ret)
 have no23:∀f,Ev (fun n=>L84_1 n z1 z2 s3 s4 s5 l6 l z8 deep f true) false:=fun f=>.succ (by simp only[L84_1,if_true];exact Ev.ret)
 rcases good_all h0 h1 with⟨f,hp,least,most,G⟩ | ⟨g1',hp,a,b,g2⟩
 rotate_left
 ·refine⟨false,.succ ?_,.succ ?_⟩
  ·simp only[F54]
   refine Ev.bO4 g2 ?_
   by_cases c:deep<1
   ·simp only[if_pos c];exact no39 _
   ·simp only[if_neg c,letB,Bool.not_false,if_true];exact no39 _
  ·simp only[F84]
   refine Ev.bO1 g1' ?_
   by_cases c:deep<1
   ·simp only[if_pos c];exact no23 _
   ·simp only[if_neg c,if_true];exact no23 _
 by_cases c:deep<1
 ·refine⟨false,.succ ?_,.succ ?_⟩
  ·simp only[F54]
   refine Ev.bO4 G.f58 ?_
   simp only[if_pos c];exact no39 _
  ·simp only[F84]
   refine Ev.bO1 G.f40 ?_
   simp only[if_pos c];exact no23 _
 have wd:IntKind.i64.wrap (deep - 1)=deep - 1:=IntWalk.i64_in _ (by omega)
 obtain⟨m0,m1,m2⟩:=G.most6
 obtain⟨M,rfl⟩:∃M:Nat,most=M:=⟨most.toNat,by omega⟩
 -- one argument
 have arg:∀{i:Nat},i<l.length→∃r a0 a1 a2 a3 a4 a5 a6 a7,l[i]?=some (.agg [.int .u8 a0,.int .i64 a1,.str a2,.str a3,.str a4,.list false 1 a5,.list true 8 a6,.int .i64 a7])∧
   Ev (fun n=>F99 n a0 a1 a2 a3 a4 a5 a6 a7 z1 z2 s3 s4 s5 l6 l z8 deep) (r,z1,z2,s3,s4,s5,l6,l,z8,deep)∧
   ∃q,(z1=18→r=q)∧(¬z1=18→r=(!decide (a0=5∨a0=6)&&q))∧Ev (fun n=>F84 n a0 a1 a2 a3 a4 a5 a6 a7 (deep - 1)) q:=by
  intro i hi
  obtain⟨x,hx,hm,hr⟩:=h.get hi
  obtain⟨a0,a1,a2,a3,a4,a5,a6,a7,rfl,w0,_,w2,w3,w4,w5,w6,_⟩:=rs39 hr
  obtain⟨q,q1,q2⟩:=ih a6 (size_row (ag:=true) (sz:=8) hm (by simp)) w6 a0 a1 a2 a3 a4 a5 a7 (deep - 1) (u8_range w0).1 (u8_range w0).2 w2 w3 w4 w5 (by omega) (by omega)
  have e38:∀n,F53 n a0 a1 a2 a3 a4 a5 a6 a7=some (decide (a0=5∨a0=6)):=fun n=>by
   unfold F53
   by_cases c5:a0=5
   ·simp[c5]
   ·by_cases c6:a0=6<;>simp[c5,c6]
  by_cases c18:z1=18
  ·refine⟨q,a0,a1,a2,a3,a4,a5,a6,a7,hx,.succ ?_,q,fun _=>rfl,fun h=>absurd c18 h,q2⟩
   simp only[F99,if_pos c18,letF,wd]
   exact Ev.bO1 q1 Ev.ret
  ·refine⟨_,a0,a1,a2,a3,a4,a5,a6,a7,hx,.succ ?_,q,fun h=>absurd h c18,fun _=>rfl,q2⟩
   simp only[F99,if_neg c18,e38]
   refine Ev.bO1 Ev.ret ?_
   cases decide (a0=5∨a0=6)
   ·simp only[letB,Bool.not_false,if_true,letF,wd,Bool.true_and]
    exact Ev.bO1 q1 Ev.ret
   ·simp only[letB,Bool.not_true,Bool.false_eq_true,if_false,Bool.false_and];exact Ev.ret
 -- the arguments
 have args:l.length≤M→∃A,Ev (fun n=>F98 n l (M:Int) z1 z2 s3 s4 s5 l6 l z8 deep) (A,z1,z2,s3,s4,s5,l6,l,z8,deep)∧Ev (fun n=>L84_10 n z1 l deep (0:Int)) A:=by
  intro hM
  have loop:∀i,i≤l.length→∃A,Ev (fun n=>L98_1 n l (M:Int) (i:Int) z1 z2 s3 s4 s5 l6 l z8 deep) (A,z1,z2,s3,s4,s5,l6,l,z8,deep)∧Ev (fun n=>L84_10 n z1 l deep (i:Int)) A:=by
   refine down l.length ⟨true,.succ ?_,.succ ?_⟩ (fun i hi ih2=>?_)
   ·simp only[L98_1,lenF,Int.lt_irrefl,if_false]
    exact .succ (by simp only[L98_2,Bool.false_eq_true,if_false,lenF,if_pos (show (l.length:Int)≤(M:Int)by omega)];exact Ev.ret)
   ·simp only[L84_10,lenF,Int.lt_irrefl,if_false]
    exact .succ (by simp only[L84_11,Bool.false_eq_true,if_false];exact Ev.ret)
   ·obtain⟨A,b1,b2⟩:=ih2
    obtain⟨r,a0,a1,a2,a3,a4,a5,a6,a7,hx,p1,q,p2,p3,p4⟩:=arg hi
    refine⟨r&&A,.succ ?_,.succ ?_⟩
    ·simp only[L98_1,lenF,if_pos (show (i:Int)<(l.length:Int)by omega),if_pos (show (i:Int)<(M:Int)by omega)]
     refine .succ ?_
     simp only[L98_2,if_true,getF_nat hx,ds_t39]
     refine Ev.bO10 p1 ?_
     cases r
     ·simp only[letB,Bool.not_false,if_true,Bool.false_and];exact Ev.ret
     ·simp only[letB,Bool.not_true,Bool.false_eq_true,if_false,letF,wrap_succ hi h.1,Bool.true_and];exact b1
    ·simp only[L84_10,lenF,if_pos (show (i:Int)<(l.length:Int)by omega)]
     refine .succ ?_
     simp only[L84_11,if_true,getF_nat hx,ds_t39]
     have e22:∀n,F83 n a0 a1 a2 a3 a4 a5 a6 a7=some (decide (a0=5∨a0=6)):=fun n=>by
      unfold F83
      by_cases c5:a0=5
      ·simp[c5]
      ·by_cases c6:a0=6<;>simp[c5,c6]
     have k12:∀b,Ev (fun n=>L84_12 n z1 l deep (i:Int) (!b)) (b&&A):=by
      intro b
      refine .succ ?_
      cases b
      ·simp only[L84_12,Bool.not_false,if_true,Bool.false_and];exact Ev.ret
      ·simp only[L84_12,Bool.not_true,Bool.false_eq_true,if_false,letF,wrap_succ hi h.1,Bool.true_and];exact b2
     simp only[e22]
     refine Ev.bO1 Ev.ret ?_
     by_cases c18:z1=18
     ·rw[p2 c18]
      simp only[if_pos c18,letF,wd]
      cases decide (a0=5∨a0=6)
      ·simp only[Bool.false_eq_true,if_false]
       exact Ev.bO1 p4 (by simp only[letB];exact k12 q)
      ·simp only[if_true]
       exact Ev.bO1 p4 (by simp only[letB];exact k12 q)
     ·rw[p3 c18]
      simp only[if_neg c18,letF,wd]
      cases decide (a0=5∨a0=6)
      ·simp only[Bool.false_eq_true,if_false,Bool.not_false,Bool.true_and]
       exact Ev.bO1 p4 (by simp only[letB];exact k12 q)
      ·simp only[if_true,Bool.not_true,Bool.false_and];exact k12 false
  obtain⟨A,b1,b2⟩:=loop 0 (Nat.zero_le _)
  exact⟨A,.succ (by simp only[F98];exact b1),b2⟩
 have args2:¬l.length≤M→Ev (fun n=>F98 n l (M:Int) z1 z2 s3 s4 s5 l6 l z8 deep) (false,z1,z2,s3,s4,s5,l6,l,z8,deep):=by
  intro hM
  have loop:∀i,i≤M→Ev (fun n=>L98_1 n l (M:Int) (i:Int) z1 z2 s3 s4 s5 l6 l z8 deep) (false,z1,z2,s3,s4,s5,l6,l,z8,deep):=by
   refine down M (.succ ?_) (fun i hi ih2=>?_)
   ·simp only[L98_1,lenF,if_pos (show (M:Int)<(l.length:Int)by omega),Int.lt_irrefl,if_false]
    exact .succ (by simp only[L98_2,Bool.false_eq_true,if_false,lenF,if_neg (show ¬(l.length:Int)≤(M:Int)by omega)];exact Ev.ret)
   ·obtain⟨r,a0,a1,a2,a3,a4,a5,a6,a7,hx,p1,q,p2,p3,p4⟩:=arg (show i<l.length by omega)
    refine .succ ?_
    simp only[L98_1,lenF,if_pos (show (i:Int)<(l.length:Int)by omega),if_pos (show (i:Int)<(M:Int)by omega)]
    refine .succ ?_
    simp only[L98_2,if_true,getF_nat hx,ds_t39]
    refine Ev.bO10 p1 ?_
    cases r
    ·simp only[letB,Bool.not_false,if_true];exact Ev.ret
    ·simp only[letB,Bool.not_true,Bool.false_eq_true,if_false,letF,wrap_succ (show i<l.length by omega) h.1];exact ih2
  exact .succ (by simp only[F98];exact loop 0 (Nat.zero_le _))
 -- how many
 by_cases hmany:least≤(l.length:Int)∧(l.length:Int)≤(M:Int)
 rotate_left
 ·refine⟨false,.succ ?_,.succ ?_⟩
  ·simp only[F54]
   refine Ev.bO4 G.f58 ?_
   simp only[if_neg c,letB,Bool.not_true,Bool.false_eq_true,if_false]
   refine Ev.bO1 (ev59 h3 h4) ?_
   cases nameB z1 s3&&(secB z1 s4&&intB z1 z2)
   ·simp only[Bool.not_false,if_true];exact no39 _
   ·simp only[Bool.not_true,Bool.false_eq_true,if_false,lenF]
    by_cases cl:(l.length:Int)<least
    ·simp only[if_pos cl];exact no39 _
    ·simp only[if_neg cl]
     refine Ev.bO1 (ev60 h5 h6 hp) ?_
     generalize (if hp=true then plB s5 l6 else if z1=19 then fldB s5 l6 l&&decide (l6.length≤6)else emp s5&&decide (l6.length=0))=P
     cases P
     ·simp only[Bool.not_false];exact no39 _
     ·simp only[Bool.not_true]
      refine .succ ?_
      simp only[L54_1,Bool.false_eq_true,if_false]
      exact Ev.bO10 (args2 (by omega)) Ev.ret
  ·simp only[F84]
   refine Ev.bO1 G.f40 ?_
   simp only[if_neg c,if_neg G.ne,lenF]
   refine Ev.bO1 (G.many _ (by omega)) ?_
   have:(decide (least≤(l.length:Int))&&decide ((l.length:Int)≤(M:Int)))=false:=by
    rw[Bool.and_eq_false_iff]
    by_cases c1:least≤(l.length:Int)
    ·right;exact decide_eq_false (fun c2=>hmany ⟨c1,c2⟩)
    ·left;exact decide_eq_false c1
   simp only[this,letB,Bool.not_false]
   exact no23 _
 obtain⟨A,b1,b2⟩:=args (by omega)
 refine⟨intB z1 z2&&(placB z1 hp s5 l6 l&&(nameB z1 s3&&(secB z1 s4&&A))),.succ ?_,.succ ?_⟩
 ·have hpl:(if hp=true then plB s5 l6 else if z1=19 then fldB s5 l6 l&&decide (l6.length≤6)else emp s5&&decide (l6.length=0))=placB z1 hp s5 l6 l:=by
   unfold placB
   congr 1
   congr 1
   unfold fldB
   by_cases e:l6.length=l.length
   ·rw[decide_eq_true (show l6.length≤6 by omega),Bool.and_true]
   ·simp only[decide_eq_false e,Bool.false_and,Bool.and_false]
  simp only[F54]
  refine Ev.bO4 G.f58 ?_
  simp only[if_neg c,letB,Bool.not_true,Bool.false_eq_true,if_false]
  refine Ev.bO1 (ev59 h3 h4) ?_
  cases hN:nameB z1 s3
  ·simp only[Bool.false_and,Bool.and_false,Bool.not_false,if_true];exact no39 _
  cases hS:secB z1 s4
  ·simp only[Bool.false_and,Bool.and_false,Bool.true_and,Bool.not_false,if_true];exact no39 _
  cases hI:intB z1 z2
  ·simp only[Bool.false_and,Bool.and_false,Bool.true_and,Bool.not_false,if_true];exact no39 _
  simp only[Bool.true_and,Bool.not_true,Bool.false_eq_true,if_false,lenF,if_neg (show ¬(l.length:Int)<least by omega)]
  refine Ev.bO1 (ev60 h5 h6 hp) ?_
  rw[hpl]
  cases placB z1 hp s5 l6 l
  ·simp only[Bool.false_and,Bool.not_false];exact no39 _
  ·simp only[Bool.true_and,Bool.not_true]
   refine .succ ?_
   simp only[L54_1,Bool.false_eq_true,if_false]
   exact Ev.bO10 b1 Ev.ret
 ·simp only[F84]
  refine Ev.bO1 G.f40 ?_
  simp only[if_neg c,if_neg G.ne,lenF]
  refine Ev.bO1 (G.many _ (by omega)) ?_
  simp only[decide_eq_true hmany.1,decide_eq_true hmany.2,Bool.and_true,letB,Bool.not_true]
  exact g1 G h3 h4 h5 h6 b2
end Go.Proofs.YtjmofeakajdbiaaGreatDoor
end
set_option linter.unusedVariables false
noncomputable section
namespace Go.Proofs.YtjmofeakajdbiaaGreatDoor
open Go Go.AM
theorem getF_zero {γ:Type}(x:D) (l:List D) (k:D→Option γ):getF (x::l) (0:Int) k=k x:=getF_nat (i:=0) rfl
theorem evk {α:Type}{A:Nat→Option α}{r:α}(h:∀m,A (m+300)=some r):Ev A r:=⟨300,fun n hn=>by obtain⟨m,rfl⟩:∃m,n=m+300:=⟨n - 300,by omega⟩;exact h m⟩
set_option maxRecDepth 100000 in
set_option maxHeartbeats 40000000 in
theorem aw0:Ev (fun n=>F10 n []) true:=evk (fun m=>(by kernel_rfl:F10 (m+300) []=some true))
set_option maxRecDepth 100000 in
set_option maxHeartbeats 40000000 in
theorem aw1:Ev (fun n=>F10 n [(.agg [.int .u8 3,.str k_main,.list true 4 [],.int .u8 1,.str ByteArray.empty,.list true 3 [],.list true 15 [],.int .u8 1,.int .i64 0,.str ByteArray.empty,.str ByteArray.empty,.str ByteArray.empty,.list false 1 [],.list true 8 [],.int .i64 0,.int .i64 0]:D)]) true:=evk (fun m=>(by kernel_rfl:F10 (m+300) [(.agg [.int .u8 3,.str k_main,.list true 4 [],.int .u8 1,.str ByteArray.empty,.list true 3 [],.list true 15 [],.int .u8 1,.int .i64 0,.str ByteArray.empty,.str ByteArray.empty,.str ByteArray.empty,.list false 1 [],.list true 8 [],.int .i64 0,.int .i64 0]:D)]=some true))
set_option maxRecDepth 100000 in
set_option maxHeartbeats 40000000 in
theorem aw2:Ev (fun n=>F12 n [(.agg [.int .u8 3,.str k_main,.list true 4 [],.int .u8 1,.str ByteArray.empty,.list true 3 [],.list true 15 [],.int .u8 1,.int .i64 0,.str ByteArray.empty,.str ByteArray.empty,.str ByteArray.empty,.list false 1 [],.list true 8 [],.int .i64 0,.int .i64 0]:D)]) (3:Int):=evk (fun m=>(by kernel_rfl:F12 (m+300) [(.agg [.int .u8 3,.str k_main,.list true 4 [],.int .u8 1,.str ByteArray.empty,.list true 3 [],.list true 15 [],.int .u8 1,.int .i64 0,.str ByteArray.empty,.str ByteArray.empty,.str ByteArray.empty,.list false 1 [],.list true 8 [],.int .i64 0,.int .i64 0]:D)]=some (3:Int)))
set_option maxRecDepth 100000 in
set_option maxHeartbeats 40000000 in
theorem aw3:Ev (fun n=>F14 n [(.agg [.int .u8 3,.str k_main,.list true 4 [],.int .u8 1,.str ByteArray.empty,.list true 3 [],.list true 15 [],.int .u8 1,.int .i64 0,.str ByteArray.empty,.str ByteArray.empty,.str ByteArray.empty,.list false 1 [],.list true 8 [],.int .i64 0,.int .i64 0]:D)]) (2:Int):=evk (fun m=>(by kernel_rfl:F14 (m+300) [(.agg [.int .u8 3,.str k_main,.list true 4 [],.int .u8 1,.str ByteArray.empty,.list true 3 [],.list true 15 [],.int .u8 1,.int .i64 0,.str ByteArray.empty,.str ByteArray.empty,.str ByteArray.empty,.list false 1 [],.list true 8 [],.int .i64 0,.int .i64 0]:D)]=some (2:Int)))
set_option maxRecDepth 100000 in
set_option maxHeartbeats 40000000 in
theorem aw4:Ev (fun n=>F12 n []) (1:Int):=evk (fun m=>(by kernel_rfl:F12 (m+300) []=some (1:Int)))
set_option maxRecDepth 100000 in
set_option maxHeartbeats 40000000 in
theorem aw5:Ev (fun n=>F21 n (1:Int) ByteArray.empty ([]:List D)) true:=evk (fun m=>(by kernel_rfl:F21 (m+300) (1:Int) ByteArray.empty ([]:List D)=some true))
set_option maxRecDepth 100000 in
set_option maxHeartbeats 40000000 in
theorem aw6:Ev (fun n=>F21 n (5:Int) ByteArray.empty ([]:List D)) false:=evk (fun m=>(by kernel_rfl:F21 (m+300) (5:Int) ByteArray.empty ([]:List D)=some false))
set_option maxRecDepth 100000 in
set_option maxHeartbeats 40000000 in
theorem aw7:Ev (fun n=>F21 n (1:Int) k_T ([]:List D)) false:=evk (fun m=>(by kernel_rfl:F21 (m+300) (1:Int) k_T ([]:List D)=some false))
set_option maxRecDepth 100000 in
set_option maxHeartbeats 40000000 in
theorem aw8:Ev (fun n=>F20 n (1:Int) (-1:Int) ByteArray.empty ByteArray.empty ByteArray.empty ([]:List D) ([]:List D) (0:Int)) false:=evk (fun m=>(by kernel_rfl:F20 (m+300) (1:Int) (-1:Int) ByteArray.empty ByteArray.empty ByteArray.empty ([]:List D) ([]:List D) (0:Int)=some false))
set_option maxRecDepth 100000 in
set_option maxHeartbeats 40000000 in
theorem aw9:Ev (fun n=>F20 n (5:Int) (0:Int) ByteArray.empty ByteArray.empty k_x ([]:List D) ([]:List D) (0:Int)) false:=evk (fun m=>(by kernel_rfl:F20 (m+300) (5:Int) (0:Int) ByteArray.empty ByteArray.empty k_x ([]:List D) ([]:List D) (0:Int)=some false))
set_option maxRecDepth 100000 in
set_option maxHeartbeats 40000000 in
theorem aw10:Ev (fun n=>F20 n (18:Int) (0:Int) k_f ByteArray.empty ByteArray.empty ([]:List D) [(.agg [.int .u8 5,.int .i64 0,.str ByteArray.empty,.str ByteArray.empty,.str k_x,.list false 1 [],.list true 8 [],.int .i64 0]:D)] (0:Int)) true:=evk (fun m=>(by kernel_rfl:F20 (m+300) (18:Int) (0:Int) k_f ByteArray.empty ByteArray.empty ([]:List D) [(.agg [.int .u8 5,.int .i64 0,.str ByteArray.empty,.str ByteArray.empty,.str k_x,.list false 1 [],.list true 8 [],.int .i64 0]:D)] (0:Int)=some true))
set_option maxRecDepth 100000 in
set_option maxHeartbeats 40000000 in
theorem aw11:Ev (fun n=>F52 n k_x [.str k_a,.str k__]) true:=evk (fun m=>(by kernel_rfl:F52 (m+300) k_x [.str k_a,.str k__]=some true))
set_option maxRecDepth 100000 in
set_option maxHeartbeats 40000000 in
theorem aw12:Ev (fun n=>F52 n k_X []) false:=evk (fun m=>(by kernel_rfl:F52 (m+300) k_X []=some false))
set_option maxRecDepth 100000 in
set_option maxHeartbeats 40000000 in
theorem aw13:Ev (fun n=>F25 n [(.agg [.int .u8 3,.str k_main,.list true 4 [],.int .u8 1,.str ByteArray.empty,.list true 3 [],.list true 15 [],.int .u8 1,.int .i64 0,.str ByteArray.empty,.str ByteArray.empty,.str ByteArray.empty,.list false 1 [],.list true 8 [],.int .i64 0,.int .i64 0]:D)] [(.agg [.int .u8 3,.str k_main,.list true 4 [],.int .u8 1,.str ByteArray.empty,.list true 3 [],.list true 15 [],.int .u8 1,.int .i64 0,.str ByteArray.empty,.str ByteArray.empty,.str ByteArray.empty,.list false 1 [],.list true 8 [],.int .i64 0,.int .i64 7]:D)]) true:=evk (fun m=>(by kernel_rfl:F25 (m+300) [(.agg [.int .u8 3,.str k_main,.list true 4 [],.int .u8 1,.str ByteArray.empty,.list true 3 [],.list true 15 [],.int .u8 1,.int .i64 0,.str ByteArray.empty,.str ByteArray.empty,.str ByteArray.empty,.list false 1 [],.list true 8 [],.int .i64 0,.int .i64 0]:D)] [(.agg [.int .u8 3,.str k_main,.list true 4 [],.int .u8 1,.str ByteArray.empty,.list true 3 [],.list true 15 [],.int .u8 1,.int .i64 0,.str ByteArray.empty,.str ByteArray.empty,.str ByteArray.empty,.list false 1 [],.list true 8 [],.int .i64 0,.int .i64 7]:D)]=some true))
set_option maxRecDepth 100000 in
set_option maxHeartbeats 40000000 in
theorem aw14:Ev (fun n=>F115 n []) ([]:List D):=evk (fun m=>(by kernel_rfl:F115 (m+300) []=some ([]:List D)))
set_option maxRecDepth 100000 in
set_option maxHeartbeats 40000000 in
theorem aw15:Ev (fun n=>F102 n 1 ByteArray.empty []) ((1:Int),ByteArray.empty,([]:List D)):=evk (fun m=>(by kernel_rfl:F102 (m+300) 1 ByteArray.empty []=some ((1:Int),ByteArray.empty,([]:List D))))
set_option maxRecDepth 100000 in
set_option maxHeartbeats 40000000 in
theorem aw16:Ev (fun n=>F109 n []) ([]:List D):=evk (fun m=>(by kernel_rfl:F109 (m+300) []=some ([]:List D)))
set_option maxRecDepth 100000 in
set_option maxHeartbeats 40000000 in
theorem aw17:Ev (fun n=>F107 n []) ([]:List D):=evk (fun m=>(by kernel_rfl:F107 (m+300) []=some ([]:List D)))
theorem ev105:Ev (fun n=>F105 n []) []:=by
 have h:Ev (fun n=>L105_1 n [] false) ([]:List D):=.succ (by simp[L105_1,appF];exact .ret)
 have h':Ev (fun n=>L105_1 n [] true) ([]:List D):=.succ (by simp[L105_1];exact .ret)
 obtain⟨N,hN⟩:=h
 obtain⟨N',hN'⟩:=h'
 refine⟨N+N',fun n hn=>?_⟩
 have e1:=hN n (by omega)
 have e2:=hN' n (by omega)
 show nilF _ _ _=_
 rw[nilF_eq (fun _=>by rw[show L105_1 n [] true=_ from e2,show L105_1 n [] false=_ from e1])]
 exact e1
theorem ev24k:Ev (fun n=>F24 n [(.agg [.int .u8 3,.str k_main,.list true 4 [],.int .u8 1,.str ByteArray.empty,.list true 3 [],.list true 15 [],.int .u8 1,.int .i64 0,.str ByteArray.empty,.str ByteArray.empty,.str ByteArray.empty,.list false 1 [],.list true 8 [],.int .i64 0,.int .i64 7]:D)]) [(.agg [.int .u8 3,.str k_main,.list true 4 [],.int .u8 1,.str ByteArray.empty,.list true 3 [],.list true 15 [],.int .u8 1,.int .i64 0,.str ByteArray.empty,.str ByteArray.empty,.str ByteArray.empty,.list false 1 [],.list true 8 [],.int .i64 0,.int .i64 0]:D)]:=by
 have h106:Ev (fun n=>F106 n 1 0 ByteArray.empty ByteArray.empty ByteArray.empty [] [] 0) (1,0,ByteArray.empty,ByteArray.empty,ByteArray.empty,[],[]):=by
  refine .succ ?_
  simp only[F106,F104]
  refine Ev.bO2 (Ev.bO1 ev105 .ret) (Ev.bO1 aw17 ?_)
  exact .of fun n=>rfl
 have h114:Ev (fun n=>F114 n 3 k_main [] 1 ByteArray.empty [] [] 1 0 ByteArray.empty ByteArray.empty ByteArray.empty [] [] 0 7) (3,k_main,[],1,ByteArray.empty,[],[],1,0,ByteArray.empty,ByteArray.empty,ByteArray.empty,[],[]):=by
  unfold F114
  refine Ev.bO1 aw14 (Ev.bO3 aw15 (Ev.bO1 aw16 (Ev.bO7 h106 ?_)))
  exact .of fun n=>rfl
 unfold F24 F56 F113
 refine Ev.bO1 (Ev.bO1 ?_ .ret) .ret
 simp only[lenF]
 refine .succ ?_
 simp only[L113_1,List.length_cons,List.length_nil,show (0:Int)<((0+1:Nat):Int)by decide,if_true]
 refine .succ ?_
 simp only[L113_2,if_true,getF_zero,ds_t45]
 refine Ev.bO14 h114 ?_
 simp only[appF,List.length_nil,List.length_cons,letF]
 simp only[if_pos (show 0+(0+1)≤maxLen∧(0+(0+1))*248≤140737488355328 by decide)]
 refine .succ ?_
 simp only[L113_1,if_neg (show ¬IntKind.wrap .i64 ((0:Int)+1)<((0+1:Nat):Int)by decide)]
 refine .succ ?_
 simp only[L113_2,Bool.false_eq_true,if_false]
 exact .ret
theorem ev_awake:Ev (fun n=>F17 n) true:=by
 have h22:Ev (fun n=>F22 n) [(.agg [.int .u8 3,.str k_main,.list true 4 [],.int .u8 1,.str ByteArray.empty,.list true 3 [],.list true 15 [],.int .u8 1,.int .i64 0,.str ByteArray.empty,.str ByteArray.empty,.str ByteArray.empty,.list false 1 [],.list true 8 [],.int .i64 0,.int .i64 0]:D)]:=.of fun n=>rfl
 refine Ev.bO1 h22 (Ev.bO1 h22 ?_)
 refine (Ev.bO1 ev24k (k:=fun n l21=>lenF l21 fun z22=>(if z22=(1:Int)then L17_1 n [(.agg [.int .u8 3,.str k_main,.list true 4 [],.int .u8 1,.str ByteArray.empty,.list true 3 [],.list true 15 [],.int .u8 1,.int .i64 0,.str ByteArray.empty,.str ByteArray.empty,.str ByteArray.empty,.list false 1 [],.list true 8 [],.int .i64 0,.int .i64 0]:D)] [(.agg [.int .u8 3,.str k_main,.list true 4 [],.int .u8 1,.str ByteArray.empty,.list true 3 [],.list true 15 [],.int .u8 1,.int .i64 0,.str ByteArray.empty,.str ByteArray.empty,.str ByteArray.empty,.list false 1 [],.list true 8 [],.int .i64 0,.int .i64 7]:D)] l21 false else L17_1 n [(.agg [.int .u8 3,.str k_main,.list true 4 [],.int .u8 1,.str ByteArray.empty,.list true 3 [],.list true 15 [],.int .u8 1,.int .i64 0,.str ByteArray.empty,.str ByteArray.empty,.str ByteArray.empty,.list false 1 [],.list true 8 [],.int .i64 0,.int .i64 0]:D)] [(.agg [.int .u8 3,.str k_main,.list true 4 [],.int .u8 1,.str ByteArray.empty,.list true 3 [],.list true 15 [],.int .u8 1,.int .i64 0,.str ByteArray.empty,.str ByteArray.empty,.str ByteArray.empty,.list false 1 [],.list true 8 [],.int .i64 0,.int .i64 7]:D)] l21 true)) ?_).congr fun n=>rfl
 simp only[lenF,List.length_cons,List.length_nil,show ((0+1:Nat):Int)=1 from rfl,if_true]
 refine .succ ?_
 simp only[L17_1,Bool.false_eq_true,if_false]
 refine Ev.bO1 aw0 ?_
 simp only[if_true]
 refine Ev.bO1 aw1 ?_
 simp only[if_true]
 refine Ev.bO1 aw2 ?_
 simp only[if_true]
 refine Ev.bO1 aw3 ?_
 simp only[if_true]
 refine Ev.bO1 aw4 ?_
 simp only[if_true]
 refine Ev.bO1 aw5 ?_
 simp only[if_true]
 refine Ev.bO1 aw6 ?_
 simp only[letB,Bool.not_false,if_true]
 refine Ev.bO1 aw7 ?_
 simp only[letB,Bool.not_false,if_true]
 refine Ev.bO1 aw8 ?_
 simp only[letB,Bool.not_false,if_true]
 refine Ev.bO1 aw9 ?_
 simp only[letB,Bool.not_false,if_true,letL]
 refine Ev.bO1 aw10 ?_
 simp only[if_true]
 refine Ev.bO1 aw11 ?_
 simp only[if_true]
 refine Ev.bO1 aw12 ?_
 simp only[letB,Bool.not_false,if_true]
 refine Ev.bO1 aw13 ?_
 exact .of fun n=>rfl
end Go.Proofs.YtjmofeakajdbiaaGreatDoor
set_option linter.unusedVariables false
noncomputable section
namespace Go.Proofs.YtjmofeakajdbiaaGreatDoor
open Go Go.AM
def L5_1:Nat->Int->BA->LD->Int->Int->BA->BA->BA->LD->LD->Int->Bool->Option (Bool)
 | 0,_,_,_,_,_,_,_,_,_,_,_,_=>none
 | n+1,z1,s2,l3,z4,z5,s6,s7,s8,l9,l10,z11,b16=>
  (if b16=true then some true else bO1 (F12 n ([.agg [.int .u8 0,.str ByteArray.empty,.list true 4 [],.int .u8 0,.str ByteArray.empty,.list true 3 [],.list true 15 [],.int .u8 z4,.int .i64 z5,.str s6,.str s7,.str s8,.list false 1 l9,.list true 8 l10,.int .i64 z11,.int .i64 0]])) fun z17=>letF (IntKind.wrap .i64 (z17 - 2)) fun z18=>bO1 (F12 n ([.agg [.int .u8 0,.str ByteArray.empty,.list true 4 [],.int .u8 z1,.str s2,.list true 3 l3,.list true 15 [],.int .u8 0,.int .i64 0,.str ByteArray.empty,.str ByteArray.empty,.str ByteArray.empty,.list false 1 [],.list true 8 [],.int .i64 0,.int .i64 0]])) fun z19=>letF (IntKind.wrap .i64 (z19 - 2)) fun z20=>bO1 (F20 n (8:Int) (0:Int) ByteArray.empty ByteArray.empty ByteArray.empty ([]:LD) ([.agg [.int .u8 z4,.int .i64 z5,.str s6,.str s7,.str s8,.list false 1 l9,.list true 8 l10,.int .i64 z11]]) (0:Int)) fun b21=>bO1 (F20 n z4 z5 s6 s7 s8 l9 l10 z11) fun b22=>(if b22=true then (if z18<(40:Int)then letB (b21==true) fun b23=>(if b23=true then bO1 (F21 n (5:Int) ByteArray.empty ([.agg [.int .u8 z1,.str s2,.list true 3 l3]])) fun b24=>bO1 (F21 n z1 s2 l3) fun b25=>(if b25=true then (if z20<(40:Int)then letB (b24==true) fun b26=>some b26 else letB (b24==false) fun b27=>some b27)else letB (b24==false) fun b28=>some b28)else some false)else letB (b21==false) fun b29=>(if b29=true then bO1 (F21 n (5:Int) ByteArray.empty ([.agg [.int .u8 z1,.str s2,.list true 3 l3]])) fun b30=>bO1 (F21 n z1 s2 l3) fun b31=>(if b31=true then (if z20<(40:Int)then letB (b30==true) fun b32=>some b32 else letB (b30==false) fun b33=>some b33)else letB (b30==false) fun b34=>some b34)else some false))else letB (b21==false) fun b35=>(if b35=true then bO1 (F21 n (5:Int) ByteArray.empty ([.agg [.int .u8 z1,.str s2,.list true 3 l3]])) fun b36=>bO1 (F21 n z1 s2 l3) fun b37=>(if b37=true then (if z20<(40:Int)then letB (b36==true) fun b38=>some b38 else letB (b36==false) fun b39=>some b39)else letB (b36==false) fun b40=>some b40)else some false)))
def F5 (n:Nat) (z1:Int) (s2:BA) (l3:LD) (z4:Int) (z5:Int) (s6:BA) (s7:BA) (s8:BA) (l9:LD) (l10:LD) (z11:Int):Option (Bool):=
 bO1 (F17 n) fun b12=>letB (!b12) fun b13=>(if b13=true then some false else bO1 (F18 n z1 s2 l3) fun b14=>(if b14=true then L5_1 n z1 s2 l3 z4 z5 s6 s7 s8 l9 l10 z11 true else bO1 (F19 n z4 z5 s6 s7 s8 l9 l10 z11) fun b15=>L5_1 n z1 s2 l3 z4 z5 s6 s7 s8 l9 l10 z11 b15))
theorem T5 (n:Nat):∀⦃z1 s2 l3 z4 z5 s6 s7 s8 l9 l10 z11 r1⦄,F5 n z1 s2 l3 z4 z5 s6 s7 s8 l9 l10 z11=some r1->
    Trip Tryz.prog inv 5 [.d (.agg [.int .u8 z1,.str s2,.list true 3 l3]),.d (.agg [.int .u8 z4,.int .i64 z5,.str s6,.str s7,.str s8,.list false 1 l9,.list true 8 l10,.int .i64 z11])] [] (.v (.d (.bool r1))) [] []:=by
 intro z1 s2 l3 z4 z5 s6 s7 s8 l9 l10 z11 r1 h
 unfold F5 at h
 refine Trip.of tab_ok tab_one fol Tryz.func5 rfl (by kernel_rfl) rfl rfl rfl (fun M hM hI=>?_)
 try cbv
 refine seq_go ?_
 try cbv
 refine seq_go ?_
 try cbv
 refine seq_go ?_
 try cbv
 replace h:=bO1_inv h
 obtain⟨b12,hr,h⟩:=h
 refine call_go rfl rfl ?_
 try cbv
 refine call_pure hM hI (T17 _ hr) rfl ?_
 clear hr
 try cbv
 replace h:=letB_inv h
 obtain⟨b13,hz,h⟩:=h
 refine⟨b13,not_eq' hz,?_⟩
 clear hz
 try cbv
 cases b13
 rotate_left
 ·replace h:=itT h
  try cbv
  refine seq_go ?_
  try cbv
  obtain rfl:=Option.some.inj h
  refine fin_go ?_
  try cbv
  exact⟨[],by trivial⟩
 replace h:=itF h
 try cbv
 refine seq_go ?_
 try cbv
 refine seq_join (T:=Nat×Bool) (fun t=>⟨[sL 2 0,sL 3 32,sB 4 false,sB 16 t.2],[(.loc 0,.cells [.d (.int .u8 z1),.d (.str s2),.d (.list true 3 l3)]),(.loc 32,.cells [.d (.int .u8 z4),.d (.int .i64 z5),.d (.str s6),.d (.str s7),.d (.str s8),.d (.list false 1 l9),.d (.list true 8 l10),.d (.int .i64 z11)])],352⟩) (fun t=>t.1<=n/\L5_1 t.1 z1 s2 l3 z4 z5 s6 s7 s8 l9 l10 z11 t.2=some r1) ?_ ?_
 ·try cbv
  replace h:=bO1_inv h
  obtain⟨b14,hr,h⟩:=h
  refine call_go rfl rfl ?_
  try cbv
  refine call_pure hM hI (T18 _ hr) rfl ?_
  clear hr
  try cbv
  cases b14
  ·replace h:=itF h
   try cbv
   replace h:=bO1_inv h
   obtain⟨b15,hr,h⟩:=h
   refine call_go rfl rfl ?_
   try cbv
   refine call_pure hM hI (T19 _ hr) rfl ?_
   clear hr
   try cbv
   exact join_next (n,b15) [2,3,4,16] [.loc 0,.loc 32] 352 ⟨by omega,h⟩ (by cbv)
  replace h:=itT h
  try cbv
  exact join_next (n,true) [2,3,4,16] [.loc 0,.loc 32] 352 ⟨by omega,h⟩ (by cbv)
 clear h
 rintro⟨m1,b16⟩ ⟨hm1,h⟩
 replace hm1:m1<=n:=hm1
 obtain _ | m1:=m1
 ·replace h:L5_1 0 z1 s2 l3 z4 z5 s6 s7 s8 l9 l10 z11 b16=some r1:=h
  rw[L5_1]at h
  cases h
 replace h:L5_1 (m1+1) z1 s2 l3 z4 z5 s6 s7 s8 l9 l10 z11 b16=some r1:=h
 rw[L5_1]at h
 try cbv
 cases b16
 rotate_left
 ·replace h:=itT h
  try cbv
  refine seq_go ?_
  try cbv
  obtain rfl:=Option.some.inj h
  refine fin_go ?_
  try cbv
  exact⟨[],by trivial⟩
 replace h:=itF h
 try cbv
 refine seq_go ?_
 try cbv
 refine⟨false,?_⟩
 try cbv
 refine⟨true,?_⟩
 try cbv
 refine seq_go ?_
 try cbv
 refine⟨false,?_⟩
 try cbv
 refine⟨true,?_⟩
 try cbv
 refine seq_go ?_
 try cbv
 refine⟨false,?_⟩
 try cbv
 refine⟨true,?_⟩
 try cbv
 replace h:=bO1_inv h
 obtain⟨z17,hr,h⟩:=h
 refine call_go rfl rfl ?_
 try cbv
 refine call_pure hM hI (T12 _ hr) rfl ?_
 clear hr
 try cbv
 replace h:=letF_inv h
 obtain⟨z18,hz,h⟩:=h
 refine⟨z18,hz,?_⟩
 clear hz
 try cbv
 refine seq_go ?_
 try cbv
 refine⟨false,?_⟩
 try cbv
 refine⟨true,?_⟩
 try cbv
 replace h:=bO1_inv h
 obtain⟨z19,hr,h⟩:=h
 refine call_go rfl rfl ?_
 try cbv
 refine call_pure hM hI (T12 _ hr) rfl ?_
 clear hr
 try cbv
 replace h:=letF_inv h
 obtain⟨z20,hz,h⟩:=h
 refine⟨z20,hz,?_⟩
 clear hz
 try cbv
 refine seq_go ?_
 try cbv
 replace h:=bO1_inv h
 obtain⟨b21,hr,h⟩:=h
 first | refine .inr (.inl ⟨[],?_⟩) | refine .inl ⟨[],?_⟩
 try cbv
 refine call_pure hM hI (T20 _ hr) rfl ?_
 clear hr
 try cbv
 replace h:=bO1_inv h
 obtain⟨b22,hr,h⟩:=h
 first | refine .inr (.inl ⟨[],?_⟩) | refine .inl ⟨[],?_⟩
 try cbv
 refine call_pure hM hI (T20 _ hr) rfl ?_
 clear hr
 try cbv
 cases b22
 ·replace h:=itF h
  try cbv
  replace h:=letB_inv h
  obtain⟨b35,hz,h⟩:=h
  refine⟨b35,eqv_eq hz,?_⟩
  clear hz
  try cbv
  cases b35
  ·replace h:=itF h
   try cbv
   refine drawn ?_ ?_
   ·show _=true
    kernel_rfl
   try cbv
   obtain rfl:=Option.some.inj h
   refine fin_go ?_
   try cbv
   exact⟨[],by trivial⟩
  replace h:=itT h
  try cbv
  replace h:=bO1_inv h
  obtain⟨b36,hr,h⟩:=h
  first | refine .inr (.inl ⟨[],?_⟩) | refine .inl ⟨[],?_⟩
  try cbv
  refine call_pure hM hI (T21 _ hr) rfl ?_
  clear hr
  try cbv
  replace h:=bO1_inv h
  obtain⟨b37,hr,h⟩:=h
  first | refine .inr (.inl ⟨[],?_⟩) | refine .inl ⟨[],?_⟩
  try cbv
  refine call_pure hM hI (T21 _ hr) rfl ?_
  clear hr
  try cbv
  cases b37
  ·replace h:=itF h
   try cbv
   replace h:=letB_inv h
   obtain⟨b40,hz,h⟩:=h
   refine⟨b40,eqv_eq hz,?_⟩
   clear hz
   try cbv
   refine drawn ?_ ?_
   ·show _=true
    kernel_rfl
   try cbv
   obtain rfl:=Option.some.inj h
   refine fin_go ?_
   try cbv
   exact⟨[],by trivial⟩
  replace h:=itT h
  try cbv
  refine splitL (fun e=>?_) (fun e=>?_)
  ·replace h:=ite_t e h
   clear e
   try cbv
   replace h:=letB_inv h
   obtain⟨b38,hz,h⟩:=h
   refine⟨b38,eqv_eq hz,?_⟩
   clear hz
   try cbv
   refine drawn ?_ ?_
   ·show _=true
    kernel_rfl
   try cbv
   obtain rfl:=Option.some.inj h
   refine fin_go ?_
   try cbv
   exact⟨[],by trivial⟩
  replace h:=ite_f (Int.not_lt.2 e) h
  clear e
  try cbv
  replace h:=letB_inv h
  obtain⟨b39,hz,h⟩:=h
  refine⟨b39,eqv_eq hz,?_⟩
  clear hz
  try cbv
  refine drawn ?_ ?_
  ·show _=true
   kernel_rfl
  try cbv
  obtain rfl:=Option.some.inj h
  refine fin_go ?_
  try cbv
  exact⟨[],by trivial⟩
 replace h:=itT h
 try cbv
 refine splitL (fun e=>?_) (fun e=>?_)
 ·replace h:=ite_t e h
  clear e
  try cbv
  replace h:=letB_inv h
  obtain⟨b23,hz,h⟩:=h
  refine⟨b23,eqv_eq hz,?_⟩
  clear hz
  try cbv
  cases b23
  ·replace h:=itF h
   try cbv
   refine drawn ?_ ?_
   ·show _=true
    kernel_rfl
   try cbv
   obtain rfl:=Option.some.inj h
   refine fin_go ?_
   try cbv
   exact⟨[],by trivial⟩
  replace h:=itT h
  try cbv
  replace h:=bO1_inv h
  obtain⟨b24,hr,h⟩:=h
  first | refine .inr (.inl ⟨[],?_⟩) | refine .inl ⟨[],?_⟩
  try cbv
  refine call_pure hM hI (T21 _ hr) rfl ?_
  clear hr
  try cbv
  replace h:=bO1_inv h
  obtain⟨b25,hr,h⟩:=h
  first | refine .inr (.inl ⟨[],?_⟩) | refine .inl ⟨[],?_⟩
  try cbv
  refine call_pure hM hI (T21 _ hr) rfl ?_
  clear hr
  try cbv
  cases b25
  ·replace h:=itF h
   try cbv
   replace h:=letB_inv h
   obtain⟨b28,hz,h⟩:=h
   refine⟨b28,eqv_eq hz,?_⟩
   clear hz
   try cbv
   refine drawn ?_ ?_
   ·show _=true
    kernel_rfl
   try cbv
   obtain rfl:=Option.some.inj h
   refine fin_go ?_
   try cbv
   exact⟨[],by trivial⟩
  replace h:=itT h
  try cbv
  refine splitL (fun e=>?_) (fun e=>?_)
  ·replace h:=ite_t e h
   clear e
   try cbv
   replace h:=letB_inv h
   obtain⟨b26,hz,h⟩:=h
   refine⟨b26,eqv_eq hz,?_⟩
   clear hz
   try cbv
   refine drawn ?_ ?_
   ·show _=true
    kernel_rfl
   try cbv
   obtain rfl:=Option.some.inj h
   refine fin_go ?_
   try cbv
   exact⟨[],by trivial⟩
  replace h:=ite_f (Int.not_lt.2 e) h
  clear e
  try cbv
  replace h:=letB_inv h
  obtain⟨b27,hz,h⟩:=h
  refine⟨b27,eqv_eq hz,?_⟩
  clear hz
  try cbv
  refine drawn ?_ ?_
  ·show _=true
   kernel_rfl
  try cbv
  obtain rfl:=Option.some.inj h
  refine fin_go ?_
  try cbv
  exact⟨[],by trivial⟩
 replace h:=ite_f (Int.not_lt.2 e) h
 clear e
 try cbv
 replace h:=letB_inv h
 obtain⟨b29,hz,h⟩:=h
 refine⟨b29,eqv_eq hz,?_⟩
 clear hz
 try cbv
 cases b29
 ·replace h:=itF h
  try cbv
  refine drawn ?_ ?_
  ·show _=true
   kernel_rfl
  try cbv
  obtain rfl:=Option.some.inj h
  refine fin_go ?_
  try cbv
  exact⟨[],by trivial⟩
 replace h:=itT h
 try cbv
 replace h:=bO1_inv h
 obtain⟨b30,hr,h⟩:=h
 first | refine .inr (.inl ⟨[],?_⟩) | refine .inl ⟨[],?_⟩
 try cbv
 refine call_pure hM hI (T21 _ hr) rfl ?_
 clear hr
 try cbv
 replace h:=bO1_inv h
 obtain⟨b31,hr,h⟩:=h
 first | refine .inr (.inl ⟨[],?_⟩) | refine .inl ⟨[],?_⟩
 try cbv
 refine call_pure hM hI (T21 _ hr) rfl ?_
 clear hr
 try cbv
 cases b31
 ·replace h:=itF h
  try cbv
  replace h:=letB_inv h
  obtain⟨b34,hz,h⟩:=h
  refine⟨b34,eqv_eq hz,?_⟩
  clear hz
  try cbv
  refine drawn ?_ ?_
  ·show _=true
   kernel_rfl
  try cbv
  obtain rfl:=Option.some.inj h
  refine fin_go ?_
  try cbv
  exact⟨[],by trivial⟩
 replace h:=itT h
 try cbv
 refine splitL (fun e=>?_) (fun e=>?_)
 ·replace h:=ite_t e h
  clear e
  try cbv
  replace h:=letB_inv h
  obtain⟨b32,hz,h⟩:=h
  refine⟨b32,eqv_eq hz,?_⟩
  clear hz
  try cbv
  refine drawn ?_ ?_
  ·show _=true
   kernel_rfl
  try cbv
  obtain rfl:=Option.some.inj h
  refine fin_go ?_
  try cbv
  exact⟨[],by trivial⟩
 replace h:=ite_f (Int.not_lt.2 e) h
 clear e
 try cbv
 replace h:=letB_inv h
 obtain⟨b33,hz,h⟩:=h
 refine⟨b33,eqv_eq hz,?_⟩
 clear hz
 try cbv
 refine drawn ?_ ?_
 ·show _=true
  kernel_rfl
 try cbv
 obtain rfl:=Option.some.inj h
 refine fin_go ?_
 try cbv
 exact⟨[],by trivial⟩
end Go.Proofs.YtjmofeakajdbiaaGreatDoor
end
