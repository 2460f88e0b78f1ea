/- QueuesPlay. No condition. (Part 5.) -/
import Derived.Carry
import Derived.ChangeSame
import Derived.ChangeOld
import Derived.ChangeCalls
import Derived.WideShapes
import Derived.Test.YtiiojajgajnhpaaRows
import Derived.JoinedOf
import Derived.JoinedAt
import Derived.RowKit
import Derived.RowKit2
import Derived.ReadAgain
import Derived.ChangeAlike
import Derived.Test.YtiiojajgajnhpaaPlaD
set_option linter.unusedVariables false
set_option linter.unusedSimpArgs false
set_option maxRecDepth 100000
set_option maxHeartbeats 40000000
set_option linter.unusedVariables false
noncomputable section
namespace Go.Proofs.Ytiiojajgajnhpaa
open Go Go.AM
def F42r0x1 (n:Nat) (z1:Int) (z2:Int) (s3:ByteArray) (l4:List D) (z5:Int) (l6:List D) (l7:List D):Option (List D):=
 lenF l7 fun z8=>appF 88 l7 ([.agg [.int .u8 0,.int .i64 0,.str ByteArray.empty,.list true 6 [],.int .i64 0,.list false 1 []]]) fun l9=>needF (0≤z8∧z8.toNat<l9.length) (getN l9 (z8.toNat) fun x10=>ds_t49 x10 fun z11 z12 s13 l14 z15 l16=>setF l9 (z8.toNat) (.agg [.int .u8 z1,.int .i64 z2,.str s3,.list true 6 l4,.int .i64 z5,.list false 1 l6]) fun l17=>some l17)
theorem T42r0x1 (n:Nat):∀⦃z1:Int⦄ ⦃z2:Int⦄ ⦃s3:ByteArray⦄ ⦃l4:List D⦄ ⦃z5:Int⦄ ⦃l6:List D⦄ ⦃l7:List D⦄ ⦃r1:List D⦄,F42r0x1 n z1 z2 s3 l4 z5 l6 l7=some r1→
  RoundK Try.prog inv (rf42_0 ()) [(6,.v (.c (.ptr (.ext 0) 0)))] [.d (.agg [.int .u8 z1,.int .i64 z2,.str s3,.list true 6 l4,.int .i64 z5,.list false 1 l6])] [.cells [.ow (.ext 1)],.tree .flat true 6 l7 none] fun j p n=>j=none∧p=[.cells [.ow (.loc 0)],.gone]∧n=[.tree .flat true 6 r1 none]:=by
 intro z1 z2 s3 l4 z5 l6 l7 r1 h
 unfold F42r0x1 at h
 refine RoundK.of' tab_ok tab_one fol rfl rfl rfl rfl rfl (by kernel_rfl) (fun M hM hI=>?_)
 try cbv
 replace h:=lenF_inv M h
 obtain⟨z8,hz,h⟩:=h
 refine⟨z8,hz,?_⟩
 clear hz
 try cbv
 refine⟨false,?_⟩
 try cbv
 refine⟨true,?_⟩
 try cbv
 replace h:=appF_inv h
 obtain⟨l9,hb,hz,h⟩:=h
 refine⟨true,?_⟩
 try cbv
 refine⟨false,?_⟩
 try cbv
 refine⟨(M.lock_iff _).2 hb,l9,hz,?_⟩
 clear hb hz
 try cbv
 replace h:=needF_inv h
 obtain⟨hn,h⟩:=h
 refine⟨(M.lock_iff _).2 hn,?_⟩
 clear hn
 try cbv
 replace h:=getN_inv h
 obtain⟨x10,hx,h⟩:=h
 replace h:=ds_t49_inv h
 obtain⟨z11,z12,s13,l14,z15,l16,rfl,h⟩:=h
 refine⟨_,hx,?_⟩
 clear hx
 try cbv
 replace h:=setF_inv h
 obtain⟨l17,hz,h⟩:=h
 refine⟨l17,hz,?_⟩
 clear hz
 try cbv
 refine drawn ?_ ?_
 ·show _=true
  kernel_rfl
 try cbv
 obtain rfl:=Option.some.inj h
 refine⟨_,_,⟨rfl,rfl,rfl⟩,[],?_⟩
 try cbv
 exact⟨[.loc 192],rfl,⟨rfl,trivial⟩,⟨rfl,trivial⟩,trivial⟩
mutual
def L142_1:Nat→Int→Int→Int→(List D)→(List D)→Option (Int×Int×Int×List D×List D)
 | 0,_,_,_,_,_=>none
 | n+1,z5,z6,z7,l8,l9=>
  (if (0:Int)<z7 then L142_2 n z5 z6 z7 l8 l9 true else L142_2 n z5 z6 z7 l8 l9 false)
def L142_2:Nat→Int→Int→Int→(List D)→(List D)→Bool→Option (Int×Int×Int×List D×List D)
 | 0,_,_,_,_,_,_=>none
 | n+1,z5,z6,z7,l8,l9,b10=>
  (if b10=true then bO10 (F100 n z5 z6 z7 l8) fun z11 z12 s13 l14 z15 l16 z17 z18 z19 l20=>bO1 (F42r0x1 n z11 z12 s13 l14 z15 l16 l9) fun l21=>L142_1 n z17 z18 z19 l20 l21 else some (z5,z6,z7,l8,l9))
end
def F142 (n:Nat) (z1:Int) (z2:Int) (z3:Int) (l4:List D):Option (Int×Int×Int×List D×List D):=
 L142_1 n z1 z2 z3 l4 ([]:List D)
theorem T142 (n:Nat):∀⦃z1:Int⦄ ⦃z2:Int⦄ ⦃z3:Int⦄ ⦃l4:List D⦄ ⦃r1:Int⦄ ⦃r2:Int⦄ ⦃r3:Int⦄ ⦃r4:List D⦄ ⦃r5:List D⦄,F142 n z1 z2 z3 l4=some (r1,r2,r3,r4,r5)→
    Trip Try.prog inv 142 [.c (.yl (.ext 0)),.c (.ptr (.ext 2) 0)] [.rnd rf42_0 [(6,.v (.c (.ptr (.ext 1) 0)))],.cells [.nils true 6],.cells [.ptr (.ext 3) 0],.arr [.d (.int .i64 z1),.d (.int .i64 z2),.d (.int .i64 z3)] true 6 l4 []] (.t []) [.rnd rf42_0 [(6,.v (.c (.ptr (.ext 1) 0)))],.cells [.ow (.loc 0)],.cells [.ptr (.ext 3) 0],.arr [.d (.int .i64 r1),.d (.int .i64 r2),.d (.int .i64 r3)] true 6 r4 []] [.tree .flat true 6 r5 none]:=by
 intro z1 z2 z3 l4 r1 r2 r3 r4 r5 h
 unfold F142 at h
 refine Trip.of tab_ok tab_one fol Try.func142 rfl (by kernel_rfl) rfl rfl rfl (fun M hM hI=>?_)
 try cbv
 refine loop_invG (T:=Nat×Int×Int×Int×List D×List D) [.treeC (.ext 1) 0 true 6,.flatten (.loc 0)] [] [0,1] [.ext 0,.ext 1,.ext 2,.ext 3,.loc 0] 32 (fun t=>⟨[(0,.v (.c (.yl (.ext 0)))),(1,.v (.c (.ptr (.ext 2) 0)))],[(.ext 0,.rnd rf42_0 [(6,.v (.c (.ptr (.ext 1) 0)))]),(.ext 1,.cells [.ow (.loc 0)]),(.ext 2,.cells [.ptr (.ext 3) 0]),(.ext 3,.arr [.d (.int .i64 t.2.1),.d (.int .i64 t.2.2.1),.d (.int .i64 t.2.2.2.1)] true 6 t.2.2.2.2.1 []),(.loc 0,.tree .flat true 6 t.2.2.2.2.2 none)],32⟩)
   (fun t=>t.1≤n∧L142_1 t.1 t.2.1 t.2.2.1 t.2.2.2.1 t.2.2.2.2.1 t.2.2.2.2.2=some (r1,r2,r3,r4,r5)) (fun t=>t.1) (n,(z1,z2,z3,l4,([]:List D))) ⟨Nat.le_refl _,h⟩ (by cbv) ?_
 clear h
 rintro⟨m1,z5,z6,z7,l8,l9⟩ ⟨hm1,h⟩
 replace hm1:m1≤n:=hm1
 obtain _ | m1:=m1
 ·replace h:L142_1 0 z5 z6 z7 l8 l9=some (r1,r2,r3,r4,r5):=h
  rw[L142_1]at h
  cases h
 replace h:L142_1 (m1+1) z5 z6 z7 l8 l9=some (r1,r2,r3,r4,r5):=h
 rw[L142_1]at h
 try cbv
 refine seq_go ?_
 try cbv
 refine seq_join (T:=Nat×Bool) (fun t=>⟨[(0,.v (.c (.yl (.ext 0)))),(1,.v (.c (.ptr (.ext 2) 0))),(7,.v (.d (.bool t.2)))],[(.ext 0,.rnd rf42_0 [(6,.v (.c (.ptr (.ext 1) 0)))]),(.ext 1,.cells [.ow (.loc 0)]),(.ext 2,.cells [.ptr (.ext 3) 0]),(.ext 3,.arr [.d (.int .i64 z5),.d (.int .i64 z6),.d (.int .i64 z7)] true 6 l8 []),(.loc 0,.tree .flat true 6 l9 none)],192⟩) (fun t=>t.1≤m1∧L142_2 t.1 z5 z6 z7 l8 l9 t.2=some (r1,r2,r3,r4,r5)) ?_ ?_
 ·try cbv
  refine splitL (fun e=>?_) (fun e=>?_)
  ·replace h:=ite_t e h
   clear e
   try cbv
   exact join_next (m1,true) [0,1,7] [.ext 0,.ext 1,.ext 2,.ext 3,.loc 0] 192 ⟨by omega,h⟩ (by cbv)
  replace h:=ite_f (Int.not_lt.2 e) h
  clear e
  try cbv
  exact join_next (m1,false) [0,1,7] [.ext 0,.ext 1,.ext 2,.ext 3,.loc 0] 192 ⟨by omega,h⟩ (by cbv)
 clear h
 rintro⟨m2,b10⟩ ⟨hm2,h⟩
 replace hm2:m2≤m1:=hm2
 obtain _ | m2:=m2
 ·replace h:L142_2 0 z5 z6 z7 l8 l9 b10=some (r1,r2,r3,r4,r5):=h
  rw[L142_2]at h
  cases h
 replace h:L142_2 (m2+1) z5 z6 z7 l8 l9 b10=some (r1,r2,r3,r4,r5):=h
 rw[L142_2]at h
 try cbv
 cases b10
 ·replace h:=ite_f Bool.false_ne_true h
  try cbv
  obtain⟨rfl,rfl,rfl,rfl,rfl⟩:=inj5 h
  refine fin_go ?_
  try cbv
  exact⟨[.loc 0],rfl,rfl,⟨rfl,⟨rfl,⟨rfl,⟨rfl,trivial⟩⟩⟩⟩,⟨rfl,trivial⟩,trivial⟩
 replace h:=ite_t rfl h
 try cbv
 refine seq_go ?_
 try cbv
 replace h:=bO10_inv h
 obtain⟨z11,z12,s13,l14,z15,l16,z17,z18,z19,l20,hr,h⟩:=h
 refine call_go rfl rfl ?_
 try cbv
 refine call_with hM hI [.ext 3] (T100 _ hr) rfl (by simp) ⟨rfl,trivial⟩ ⟨trivial,trivial⟩ (by simp) ?_
 clear hr
 try cbv
 replace h:=bO1_inv h
 obtain⟨l21,hr,h⟩:=h
 refine yl_with hM hI [.ext 1,.loc 0] (sl0:=[(6,.v (.c (.ptr (.ext 0) 0)))]) rfl rfl rfl rfl (T42r0x1 _ hr) rfl rfl rfl (by simp) ⟨rfl,⟨rfl,trivial⟩⟩ ⟨trivial,⟨trivial,trivial⟩⟩ (by simp) ?_
 clear hr
 try cbv
 refine⟨false,rfl,?_⟩
 try cbv
 refine loop_nextG (m2,(z17,z18,z19,l20,l21)) [] [(288,0)] [0,1] [.ext 0,.ext 1,.ext 2,.ext 3,.loc 288] 32 ⟨by omega,h⟩ (Nat.lt_succ_of_le (by omega)) ?_
 try cbv
def F42 (n:Nat) (z1:Int) (pm2:List PRow):Option ((((List PRow)×List D) ⊕ ((List PRow)))):=
 bS (F99 n z1 pm2) (fun p10=>bO6 (some p10) fun pm3 u4 z5 z6 z7 l8=>bO4 (F101 n z5 z6 z7 l8) fun z13 z14 z15 l16=>bO5 (F142 n z13 z14 z15 l16) fun z17 z18 z19 l20 l21=>setPF pm3 u4 [.int .i64 z17,.int .i64 z18,.int .i64 z19] l20 fun pm22=>delPF z1 pm22 fun pm23=>some (.inl (pm23,l21))) (fun pm9=>some (.inr pm9))
theorem T42 (n:Nat):∀⦃z1:Int⦄ ⦃pm2:List PRow⦄ ⦃r:(((List PRow)×List D) ⊕ ((List PRow)))⦄,F42 n z1 pm2=some r→∀Q:AV→List AObj→List AObj→Prop,(match r with | .inl (r1,r2)=>Q (.v (.c (.ow (.loc 0)))) [.cells [.ow (.ext 1)],.pmap 3 6 8 r1 none] [.tree .flat true 6 r2 none] | .inr r1=>Q (.v (.c (.ow (.loc 0)))) [.cells [.ow (.ext 1)],.pmap 3 6 8 r1 none] [.tree .row true 6 [] none])→
    TripK Try.prog inv 42 [.c (.ptr (.ext 0) 0),.d (.int .i64 z1)] [.cells [.ow (.ext 1)],.pmap 3 6 8 pm2 none] Q:=by
 intro z1 pm2 r h Q hQ
 unfold F42 at h
 refine TripK.of tab_ok tab_one fol Try.func42 rfl (by kernel_rfl) rfl rfl rfl (fun M hM hI=>?_)
 try cbv
 refine seq_go ?_
 try cbv
 refine seq_go ?_
 try cbv
 replace h:=bS_inv h
 rcases h with⟨p10,hr,h⟩ | ⟨pm9,hr,h⟩
 rotate_left
 ·refine call_go rfl rfl ?_
  try cbv
  refine call_with hM hI [.ext 0,.ext 1] (T99 _ hr (fun r p n=>r= .v (.c (.nilp))∧p=[.cells [.ow (.ext 1)],.pmap 3 6 8 pm9 none]∧n=[]) ⟨rfl,rfl,rfl⟩:Trip _ _ _ _ _ (.v (.c (.nilp))) [.cells [.ow (.ext 1)],.pmap 3 6 8 pm9 none] []) rfl (by simp) ⟨rfl,⟨rfl,trivial⟩⟩ ⟨trivial,⟨trivial,trivial⟩⟩ (by simp) ?_
  clear hr
  try cbv
  refine seq_go ?_
  try cbv
  refine seq_go ?_
  try cbv
  refine seq_go ?_
  try cbv
  obtain rfl:=Option.some.inj h
  refine⟨_,_,_,hQ,[.treeS 4 true 6],?_⟩
  try cbv
  exact⟨[.loc 256],rfl,rfl,⟨rfl,⟨rfl,trivial⟩⟩,⟨rfl,trivial⟩,trivial⟩
 replace h:=bO6_inv h
 obtain⟨pm3,u4,z5,z6,z7,l8,hp,h⟩:=h
 obtain rfl:=Option.some.inj hp
 clear hp
 refine call_go rfl rfl ?_
 try cbv
 refine call_with hM hI [.ext 0,.ext 1] (T99 _ hr (fun r p n=>r= .v (.c (.ptr (.loc 0) 0))∧p=[.cells [.ow (.ext 1)],.pmap 3 6 8 pm3 (some (u4,.loc 0))]∧n=[.arr [.d (.int .i64 z5),.d (.int .i64 z6),.d (.int .i64 z7)] true 6 l8 []]) ⟨rfl,rfl,rfl⟩:Trip _ _ _ _ _ (.v (.c (.ptr (.loc 0) 0))) [.cells [.ow (.ext 1)],.pmap 3 6 8 pm3 (some (u4,.loc 0))] [.arr [.d (.int .i64 z5),.d (.int .i64 z6),.d (.int .i64 z7)] true 6 l8 []]) rfl (by simp) ⟨rfl,⟨rfl,trivial⟩⟩ ⟨trivial,⟨trivial,trivial⟩⟩ (by simp) ?_
 clear hr
 try cbv
 refine seq_go ?_
 try cbv
 refine seq_go ?_
 try cbv
 refine seq_go ?_
 try cbv
 refine seq_go ?_
 try cbv
 refine seq_go ?_
 try cbv
 replace h:=bO4_inv h
 obtain⟨z13,z14,z15,l16,hr,h⟩:=h
 refine call_go rfl rfl ?_
 try cbv
 refine call_with hM hI [.loc 96] (T101 _ hr) rfl (by simp) ⟨rfl,trivial⟩ ⟨trivial,trivial⟩ (by simp) ?_
 clear hr
 try cbv
 replace h:=bO5_inv h
 obtain⟨z17,z18,z19,l20,l21,hr,h⟩:=h
 refine range_with hM hI [.loc 320,.loc 224,.loc 288,.loc 96] [(6,.v (.c (.ptr (.loc 224) 0)))] rfl ⟨rfl,trivial⟩ (T142 _ hr) rfl (by simp) ⟨rfl,⟨rfl,⟨rfl,⟨rfl,trivial⟩⟩⟩⟩ ⟨trivial,⟨trivial,⟨trivial,⟨trivial,trivial⟩⟩⟩⟩ (by simp) ?_
 clear hr
 try cbv
 refine seq_go ?_
 try cbv
 replace h:=setPF_inv h
 obtain⟨pm22,hpm22,h⟩:=h
 refine op_must [.closeP (.ext 1)] ?_
 try cbv
 refine⟨pm22,hpm22,?_⟩
 clear hpm22
 try cbv
 first | refine⟨(rfl:(_:Nat)=_),?_⟩ | skip
 try cbv
 replace h:=delPF_inv h
 obtain⟨pm23,hz,h⟩:=h
 refine⟨pm23,(M.lock_iff _).2 hz,?_⟩
 clear hz
 try cbv
 refine seq_go ?_
 try cbv
 obtain rfl:=Option.some.inj h
 refine finQ_go hQ ?_
 try cbv
 exact⟨[.loc 352],rfl,rfl,⟨rfl,⟨rfl,trivial⟩⟩,⟨rfl,trivial⟩,trivial⟩
end Go.Proofs.Ytiiojajgajnhpaa
end
set_option linter.unusedVariables false
noncomputable section
namespace Go.Proofs.Ytiiojajgajnhpaa
open Go Go.AM
structure Ch where
 key:Int
 room:Int
 q:List VV
def zrow:D:=.agg [.int .u8 0,.int .i64 0,.str ByteArray.empty,.list true 6 [],.int .i64 0,.list false 1 []]
def ROK (x:PRow) (c:Ch):Prop:=∃(a:Nat) (L:List D),x=(c.key,[.int .i64 c.room,.int .i64 (a:Int),.int .i64 (c.q.length:Int)],L)∧1≤c.room∧c.room≤8∧a<8∧L.length=8∧(c.q.length:Int)≤c.room∧
 (∀(i:Nat) v,c.q[i]?=some v→L[(a+i) % 8]?=some v.row)∧∀v∈c.q,VS v
def QOK:List PRow→List Ch→Prop
 | [],[]=>True
 | x::xs,c::cs=>ROK x c∧QOK xs cs
 | _,_=>False
def getC (z:Int):List Ch→Option Ch
 | []=>none
 | c::r=>if c.key=z then some c else getC z r
def updC (z:Int) (c':Ch):List Ch→List Ch
 | []=>[]
 | c::r=>if c.key=z then c'::r else c::updC z c' r
def delC (z:Int):List Ch→List Ch
 | []=>[]
 | c::r=>if c.key=z then r else c::delC z r
theorem getC_key {z:Int}:∀{S:List Ch}{c:Ch},getC z S=some c→c.key=z
 | [],c,h=>by cases h
 | d::r,c,h=>by
  unfold getC at h
  split at h
  ·rename_i e;cases h;exact e
  ·exact getC_key h
theorem getC_mem {z:Int}:∀{S:List Ch}{c:Ch},getC z S=some c→c∈S
 | [],c,h=>by cases h
 | d::r,c,h=>by
  unfold getC at h
  split at h
  ·cases h;simp
  ·exact List.mem_cons_of_mem _ (getC_mem h)
theorem updC_same {z:Int}:∀{S:List Ch}{c:Ch},getC z S=some c→updC z c S=S
 | [],c,h=>by cases h
 | d::r,c,h=>by
  unfold getC at h
  unfold updC
  split at h
  ·rename_i e;cases h;rw[if_pos e]
  ·rename_i e;rw[if_neg e,updC_same h]
theorem getC_upd {z y:Int}{c':Ch}(hk:c'.key=z):∀{S:List Ch}{c:Ch},getC z S=some c→getC y (updC z c' S)=if y=z then some c' else getC y S
 | [],c,h=>by cases h
 | d::r,c,h=>by
  unfold getC at h
  unfold updC
  split at h
  ·rename_i e
   rw[if_pos e]
   unfold getC
   by_cases hy:y=z
   ·rw[if_pos (hk.trans hy.symm),if_pos hy]
   ·rw[if_neg (fun h=>hy (h.symm.trans hk)),if_neg hy,if_neg (fun h=>hy (h.symm.trans e))]
  ·rename_i e
   rw[if_neg e]
   unfold getC
   by_cases hd:d.key=y
   ·have:y≠z:=fun h=>e (hd.trans h)
    rw[if_pos hd,if_neg this,if_pos hd]
   ·rw[if_neg hd,if_neg hd,getC_upd hk h]
theorem delC_upd {z:Int}{c':Ch}(hk:c'.key=z):∀{S:List Ch}{c:Ch},getC z S=some c→delC z (updC z c' S)=delC z S
 | [],c,h=>by cases h
 | d::r,c,h=>by
  unfold getC at h
  unfold updC
  split at h
  ·rename_i e
   rw[if_pos e]
   unfold delC
   rw[if_pos hk,if_pos e]
  ·rename_i e
   rw[if_neg e]
   unfold delC
   rw[if_neg e,if_neg e,delC_upd hk h]
theorem look (z:Int):∀{pm:List PRow}{S:List Ch}(k:Nat),QOK pm S→(findP z k pm=none∧getC z S=none)∨∃(u:Nat) (x:PRow) (c:Ch),findP z k pm=some (k+u,x)∧getC z S=some c∧ROK x c∧
  (∀y c',ROK (x.1,y) c'→QOK (pm.modify u fun r=>(r.1,y)) (updC z c' S))∧QOK (pm.eraseIdx u) (delC z S)
 | [],[],k,_=>.inl ⟨rfl,rfl⟩
 | x::xs,c::cs,k,h=>by
  have hx:x.1=c.key:=by
   obtain⟨a,L,e,_⟩:=h.1
   rw[e]
  by_cases e:c.key=z
  ·refine .inr ⟨0,x,c,by simp[findP,hx,e],by simp[getC,e],h.1,fun y c' hy=>?_,?_⟩
   ·simp only[updC,if_pos e,List.modify_zero_cons]
    exact⟨hy,h.2⟩
   ·simp only[delC,if_pos e,List.eraseIdx_cons_zero]
    exact h.2
  ·have e':x.1≠z:=by rw[hx];exact e
   rcases look z (k+1) h.2 with⟨h1,h2⟩ | ⟨u,y,d,h1,h2,h3,h4,h5⟩
   ·exact .inl ⟨by simp[findP,e',h1],by simp[getC,e,h2]⟩
   ·refine .inr ⟨u+1,y,d,by simp only[findP,if_neg e',h1];congr 2;omega,by simp[getC,e,h2],h3,fun w c' hw=>?_,?_⟩
    ·simp only[updC,if_neg e,List.modify_succ_cons]
     exact⟨h.1,h4 w c' hw⟩
    ·simp only[delC,if_neg e,List.eraseIdx_cons_succ]
     exact⟨h.1,h5⟩
 | [],_::_,_,h=>h.elim
 | _::_,[],_,h=>h.elim
theorem QOK.app {x:PRow}{c:Ch}(hx:ROK x c):∀{pm:List PRow}{S:List Ch},QOK pm S→QOK (pm++[x]) (S++[c])
 | [],[],_=>⟨hx,trivial⟩
 | _::_,_::_,h=>⟨h.1,QOK.app hx h.2⟩
 | [],_::_,h=>h.elim
 | _::_,[],h=>h.elim
theorem QOK.vs:∀{pm:List PRow}{S:List Ch},QOK pm S→∀c∈S,1≤c.room∧c.room≤8∧(c.q.length:Int)≤c.room∧∀v∈c.q,VS v
 | [],[],_,c,h=>by cases h
 | x::xs,d::cs,h,c,hc=>by
  rcases List.mem_cons.1 hc with rfl | hc
  ·obtain⟨a,L,_,h1,h2,_,_,h3,_,h4⟩:=h.1
   exact⟨h1,h2,h3,h4⟩
  ·exact QOK.vs h.2 c hc
 | [],_::_,h,_,_=>h.elim
 | _::_,[],h,_,_=>h.elim
theorem ev99n {n:Nat}{z:Int}{pm:List PRow}(h:findP z 0 pm=none):F99 n z pm=some (.inr pm):=by
 unfold F99 findPF
 rw[h]
theorem ev99s {n:Nat}{z:Int}{pm:List PRow}{u:Nat}{key room a m:Int}{L:List D}(h:findP z 0 pm=some (u,key,[.int .i64 room,.int .i64 a,.int .i64 m],L)):F99 n z pm=some (.inl (pm,u,room,a,m,L)):=by
 unfold F99 findPF
 rw[h]
 rfl
theorem bSl {α β γ:Type}(a:α) (k1:α→Option γ) (k2:β→Option γ):bS (some (.inl a)) k1 k2=k1 a:=id rfl
theorem bSr {α β γ:Type}(b:β) (k1:α→Option γ) (k2:β→Option γ):bS (some (.inr b)) k1 k2=k2 b:=id rfl
theorem bO6t {A B C D E F γ:Type}(a:A) (b:B) (c:C) (d:D) (e:E) (f:F) (k:A→B→C→D→E→F→Option γ):bO6 (some (a,b,c,d,e,f)) k=k a b c d e f:=id rfl
def fullC (z:Int) (S:List Ch):Bool:=match getC z S with
 | none=>true
 | some c=>decide ((c.q.length:Int)=c.room)
def emptyC (z:Int) (S:List Ch):Bool:=match getC z S with
 | none=>true
 | some c=>decide ((c.q.length:Int)=0)
theorem evFull {pm:List PRow}{S:List Ch}(h:QOK pm S) (z:Int):∃pm',Ev (fun n=>F40 n z pm) (fullC z S,pm')∧QOK pm' S:=by
 rcases look z 0 h with⟨h1,h2⟩ | ⟨u,x,c,h1,h2,h3,h4,_⟩
 ·refine⟨pm,.of fun n=>?_,h⟩
  unfold F40
  rw[ev99n h1,bSr]
  simp[fullC,h2]
 ·obtain⟨a,L,hx,r⟩:=id h3
  subst hx
  rw[Nat.zero_add]at h1
  have h5:=h4 _ c h3
  rw[updC_same h2]at h5
  refine⟨_,.of fun n=>?_,h5⟩
  unfold F40
  rw[ev99s h1,bSl,bO6t]
  simp only[fullC,h2]
  by_cases e:(c.q.length:Int)=c.room
  ·rw[if_pos e,decide_eq_true e];rfl
  ·rw[if_neg e,decide_eq_false e];rfl
theorem evEmpty {pm:List PRow}{S:List Ch}(h:QOK pm S) (z:Int):∃pm',Ev (fun n=>F41 n z pm) (emptyC z S,pm')∧QOK pm' S:=by
 rcases look z 0 h with⟨h1,h2⟩ | ⟨u,x,c,h1,h2,h3,h4,_⟩
 ·refine⟨pm,.of fun n=>?_,h⟩
  unfold F41
  rw[ev99n h1,bSr]
  simp[emptyC,h2]
 ·obtain⟨a,L,hx,r⟩:=id h3
  subst hx
  rw[Nat.zero_add]at h1
  have h5:=h4 _ c h3
  rw[updC_same h2]at h5
  refine⟨_,.of fun n=>?_,h5⟩
  unfold F41
  rw[ev99s h1,bSl,bO6t]
  simp only[emptyC,h2]
  by_cases e:(c.q.length:Int)=0
  ·rw[if_pos e,decide_eq_true e];rfl
  ·rw[if_neg e,decide_eq_false e];rfl
def makeC (z room:Int) (S:List Ch):List Ch:=match getC z S with
 | some _=>S
 | none=>if room<1∨8<room then S else S++[⟨z,room,[]⟩]
theorem evMake {pm:List PRow}{S:List Ch}(h:QOK pm S) (z room:Int):∃pm',Ev (fun n=>F37 n z room pm) pm'∧QOK pm' (makeC z room S):=by
 rcases look z 0 h with⟨h1,h2⟩ | ⟨u,x,c,h1,h2,h3,h4,_⟩
 ·simp only[makeC,h2]
  by_cases c1:room<1
  ·rw[if_pos (.inl c1)]
   refine⟨pm,⟨1,fun n hn=>?_⟩,h⟩
   obtain⟨m,rfl⟩:∃m,n=m+1:=⟨n - 1,by omega⟩
   show F37 (m+1) z room pm=_
   unfold F37
   rw[ev99n h1,bSr,if_pos c1,L37_1,if_pos rfl]
  ·by_cases c2:8<room
   ·rw[if_pos (.inr c2)]
    refine⟨pm,⟨1,fun n hn=>?_⟩,h⟩
    obtain⟨m,rfl⟩:∃m,n=m+1:=⟨n - 1,by omega⟩
    show F37 (m+1) z room pm=_
    unfold F37
    rw[ev99n h1,bSr,if_neg c1,if_pos c2,L37_1,if_pos rfl]
   ·rw[if_neg (by omega)]
    refine⟨pm++[(z,[.int .i64 room,.int .i64 0,.int .i64 0],[zrow,zrow,zrow,zrow,zrow,zrow,zrow,zrow])],⟨1,fun n hn=>?_⟩,QOK.app (c:=⟨z,room,[]⟩) ⟨0,[zrow,zrow,zrow,zrow,zrow,zrow,zrow,zrow],rfl,by show 1≤room;omega,by show room≤8;omega,by omega,rfl,by show (0:Int)≤room;omega,fun i v hv=>by simp at hv,fun v hv=>by simp at hv⟩ h⟩
    obtain⟨m,rfl⟩:∃m,n=m+1:=⟨n - 1,by omega⟩
    show F37 (m+1) z room pm=_
    unfold F37
    rw[ev99n h1,bSr,if_neg c1,if_neg c2,L37_1,if_neg Bool.false_ne_true]
    unfold putPF
    rw[h1]
    rfl
 ·simp only[makeC,h2]
  obtain⟨a,L,hx,r⟩:=id h3
  subst hx
  rw[Nat.zero_add]at h1
  have h5:=h4 _ c h3
  rw[updC_same h2]at h5
  refine⟨_,⟨1,fun n hn=>?_⟩,h5⟩
  obtain⟨m,rfl⟩:∃m,n=m+1:=⟨n - 1,by omega⟩
  show F37 (m+1) z room pm=_
  unfold F37
  rw[ev99s h1,bSl,bO6t]
  show L37_1 (m+1) z room true _=_
  rw[L37_1,if_pos rfl]
theorem tm (k:Nat):Int.tmod (k:Int) 8=((k % 8:Nat):Int):=by
 rw[Int.tmod_eq_emod_of_nonneg (by omega)];omega
def pushC (z:Int) (v:VV) (S:List Ch):Bool×List Ch:=match getC z S with
 | none=>(false,S)
 | some c=>if (c.q.length:Int)=c.room then (false,S)else (true,updC z {c with q:=c.q++[v]} S)
theorem evPush {pm:List PRow}{S:List Ch}(h:QOK pm S) (z:Int) {v:VV}(hv:VS v):∃pm',Ev (fun n=>F39 n z v.k v.i v.nm v.id pm v.fs v.pt) ((pushC z v S).1,pm',v.fs,v.pt)∧QOK pm' (pushC z v S).2:=by
 obtain⟨pm1,e1,k1⟩:=evFull h z
 rcases look z 0 k1 with⟨h1,h2⟩ | ⟨u,x,c,h1,h2,h3,h4,_⟩
 ·refine⟨pm1,Ev.bO2 e1 ?_,by simpa [pushC,h2] using k1⟩
  simp only[fullC,pushC,h2,if_true]
  exact .ret
 ·obtain⟨a,L,hx,r1,r2,r3,r4,r5,r6,r7⟩:=id h3
  subst hx
  rw[Nat.zero_add]at h1
  by_cases e:(c.q.length:Int)=c.room
  ·refine⟨pm1,Ev.bO2 e1 ?_,by simpa [pushC,h2,e] using k1⟩
   simp only[fullC,pushC,h2,decide_eq_true e,if_true,if_pos e]
   exact .ret
  ·have hi:(a+c.q.length) % 8<8:=Nat.mod_lt _ (by omega)
   have hro:ROK (c.key,[.int .i64 c.room,.int .i64 (a:Int),.int .i64 ((c.q.length:Int)+1)],L.set ((a+c.q.length) % 8) v.row) {c with q:=c.q++[v]}:=by
    refine⟨a,L.set ((a+c.q.length) % 8) v.row,by simp,r1,r2,r3,by simpa using r4,by simp;omega,fun i w hw=>?_,fun w hw=>?_⟩
    ·simp only[]at hw
     by_cases hi':i<c.q.length
     ·rw[List.getElem?_append_left hi']at hw
      rw[List.getElem?_set_ne (by omega)]
      exact r6 i w hw
     ·have hlt:=(List.getElem?_eq_some_iff.1 hw).1
      simp at hlt
      obtain rfl:i=c.q.length:=by omega
      rw[List.getElem?_append_right (Nat.le_refl _),Nat.sub_self]at hw
      cases hw
      rw[List.getElem?_set_self (by omega)]
    ·rcases List.mem_append.1 hw with hw | hw
     ·exact r7 w hw
     ·rw[List.mem_singleton.1 hw];exact hv
   have h5:=h4 _ _ hro
   refine⟨_,Ev.bO2 e1 ?_,by simpa [pushC,h2,e] using h5⟩
   simp only[fullC,pushC,h2,decide_eq_false e,Bool.false_eq_true,if_false,if_neg e,ev99s h1,bSl,bO6t,letF]
   have w1:IntKind.wrap .i64 ((a:Int)+(c.q.length:Int))=((a+c.q.length:Nat):Int):=by rw[iw (by omega) (by omega)];omega
   simp only[w1,tm,need_pos (show ((8:Int)≠0)by decide)]
   refine Ev.bO6 (ev10 hv) ?_
   have hb8:(0:Int)≤(((a+c.q.length) % 8:Nat):Int)∧(((a+c.q.length) % 8:Nat):Int)<8:=by omega
   simp only[need_pos hb8]
   have e8:(((a+c.q.length) % 8:Nat):Int).toNat=(a+c.q.length) % 8:=by omega
   simp only[setNF,e8,r4,if_pos hi,letF,iw (show -9223372036854775808≤(c.q.length:Int)+1 by omega) (by omega)]
   exact .ret
def popC (z:Int) (S:List Ch):VV×Bool×List Ch:=match getC z S with
 | none=>(zeroV,false,S)
 | some c=>match c.q with
  | []=>(zeroV,false,S)
  | v::q=>(v,true,updC z {c with q:=q} S)
theorem pop1 {c:Ch}{v:VV}{q:List VV}{a:Nat}{L:List D}(hq:c.q=v::q) (r1:1≤c.room) (r2:c.room≤8) (r3:a<8) (r4:L.length=8) (r5:(c.q.length:Int)≤c.room) (r6:∀(i:Nat) v,c.q[i]?=some v→L[(a+i) % 8]?=some v.row) (r7:∀v∈c.q,VS v):
  (∀n,F100 n c.room (a:Int) (c.q.length:Int) L=some (v.k,v.i,v.nm,v.fs,v.id,v.pt,c.room,(((a+1) % 8:Nat):Int),(q.length:Int),L.set a zrow))∧
   (L.set a zrow).length=8∧(∀(i:Nat) w,q[i]?=some w→(L.set a zrow)[((a+1) % 8+i) % 8]?=some w.row)∧(∀w∈q,VS w):=by
 have hl:c.q.length=q.length+1:=by rw[hq];rfl
 have h0:L[a]?=some v.row:=by
  have:=r6 0 v (by rw[hq];rfl)
  rwa [Nat.add_zero,Nat.mod_eq_of_lt r3]at this
 refine⟨fun n=>?_,by simpa using r4,fun i w hw=>?_,fun w hw=>r7 w (by rw[hq];exact List.mem_cons_of_mem _ hw)⟩
 ·unfold F100
  rw[need_pos (by omega)]
  have e0:(a:Int).toNat=a:=by omega
  rw[e0,getN_some h0,ds25,need_pos (by omega)]
  simp only[setNF,r4,if_pos r3,letF,iw (show -9223372036854775808≤(a:Int)+1 by omega) (by omega)]
  rw[need_pos (by decide),show (a:Int)+1=((a+1:Nat):Int)by omega,tm]
  rw[iw (by omega) (by omega),show (c.q.length:Int) - 1=(q.length:Int)by omega]
  rfl
 ·have hi:=(List.getElem?_eq_some_iff.1 hw).1
  rw[show ((a+1) % 8+i) % 8=(a+(i+1)) % 8 by omega,List.getElem?_set_ne (by omega)]
  exact r6 (i+1) w (by rw[hq];exact hw)
theorem evPop {pm:List PRow}{S:List Ch}(h:QOK pm S) (z:Int):∃pm',Ev (fun n=>F38 n z pm) ((popC z S).1.k,(popC z S).1.i,(popC z S).1.nm,(popC z S).1.fs,(popC z S).1.id,(popC z S).1.pt,(popC z S).2.1,pm')∧QOK pm' (popC z S).2.2:=by
 obtain⟨pm1,e1,k1⟩:=evEmpty h z
 rcases look z 0 k1 with⟨h1,h2⟩ | ⟨u,x,c,h1,h2,h3,h4,_⟩
 ·refine⟨pm1,Ev.bO2 e1 ?_,by simpa [popC,h2] using k1⟩
  simp only[emptyC,popC,h2,if_true]
  exact .ret
 ·obtain⟨a,L,hx,r1,r2,r3,r4,r5,r6,r7⟩:=id h3
  subst hx
  rw[Nat.zero_add]at h1
  cases hq:c.q with
  | nil=>
   refine⟨pm1,Ev.bO2 e1 ?_,by simpa [popC,h2,hq] using k1⟩
   simp only[emptyC,popC,h2,hq,List.length_nil,Int.ofNat_eq_natCast,Int.natCast_zero,decide_true,if_true]
   exact .ret
  | cons v q=>
   obtain⟨f1,f2,f3,f4⟩:=pop1 hq r1 r2 r3 r4 r5 r6 r7
   have hl:c.q.length=q.length+1:=by rw[hq];rfl
   have hro:ROK (c.key,[.int .i64 c.room,.int .i64 (((a+1) % 8:Nat):Int),.int .i64 (q.length:Int)],L.set a zrow) {c with q:=q}:=
    ⟨(a+1) % 8,_,rfl,r1,r2,by omega,f2,by show (q.length:Int)≤c.room;omega,f3,f4⟩
   have h5:=h4 _ _ hro
   refine⟨_,Ev.bO2 e1 ?_,by simpa [popC,h2,hq] using h5⟩
   have hne:¬(((v::q).length:Nat):Int)=0:=by rw[←hq];omega
   simp only[emptyC,popC,h2,decide_eq_false hne,Bool.false_eq_true,if_false,ev99s h1,bSl,bO6t,hq]
   refine Ev.bO10 (.of fun n=>hq▸f1 n) ?_
   exact .ret
end Go.Proofs.Ytiiojajgajnhpaa
end
set_option linter.unusedVariables false
noncomputable section
namespace Go.Proofs.Ytiiojajgajnhpaa
open Go Go.AM
theorem Ev.bSl {α β γ:Type}{A:Nat→Option (α ⊕ β)}{a:α}{k1:Nat→α→Option γ}{k2:Nat→β→Option γ}{r:γ}(ha:Ev A (.inl a)) (hk:Ev (fun n=>k1 n a) r):Ev (fun n=>bS (A n) (k1 n) (k2 n)) r:=by
 obtain⟨N,h⟩:=ha
 obtain⟨M,h'⟩:=hk
 refine⟨N+M,fun n hn=>?_⟩
 show bS (A n) (k1 n) (k2 n)=some r
 rw[h n (by omega)]
 exact h' n (by omega)
theorem Ev.bSr {α β γ:Type}{A:Nat→Option (α ⊕ β)}{b:β}{k1:Nat→α→Option γ}{k2:Nat→β→Option γ}{r:γ}(ha:Ev A (.inr b)) (hk:Ev (fun n=>k2 n b) r):Ev (fun n=>bS (A n) (k1 n) (k2 n)) r:=by
 obtain⟨N,h⟩:=ha
 obtain⟨M,h'⟩:=hk
 refine⟨N+M,fun n hn=>?_⟩
 show bS (A n) (k1 n) (k2 n)=some r
 rw[h n (by omega)]
 exact h' n (by omega)
theorem Sm.nil:Sm []:=.mk (by simp) (by simp) (by simp)
theorem evOut (v:VV) {l:List D}(hl:l.length≤1000):Ev (fun n=>F42r0x1 n v.k v.i v.nm v.fs v.id v.pt l) (l++[v.row]):=by
 have hM:10000<maxLen:=by decide
 refine .of fun n=>?_
 unfold F42r0x1
 have hb:l.length+[zrow].length≤maxLen∧(l.length+[zrow].length)*88≤140737488355328:=by simp only[List.length_cons,List.length_nil];omega
 have ha:∀k:List D→Option (List D),appF 88 l [.agg [.int .u8 0,.int .i64 0,.str ByteArray.empty,.list true 6 [],.int .i64 0,.list false 1 []]] k=k (l++[zrow]):=fun k=>appF_ok hb
 have e1:((l.length:Nat):Int).toNat=l.length:=by omega
 simp only[lenF,ha,e1]
 rw[need_pos (by simp),getN_some (x:=zrow) (by simp)]
 show setF _ _ _ _=_
 unfold setF
 simp[VV.row]
theorem evAll {room:Int}(r1:1≤room) (r2:room≤8):∀(q:List VV) (a:Nat) (L acc:List D),a<8→L.length=8→(q.length:Int)≤room→(∀(i:Nat) v,q[i]?=some v→L[(a+i) % 8]?=some v.row)→(∀v∈q,VS v)→acc.length+q.length≤8→
  ∃(a':Nat) (L':List D),a'<8∧L'.length=8∧Ev (fun n=>L142_1 n room (a:Int) (q.length:Int) L acc) (room,(a':Int),0,L',acc++q.map VV.row)
 | [],a,L,acc,h1,h2,h3,h4,h5,h6=>by
  refine⟨a,L,h1,h2,.succ ?_⟩
  simp only[L142_1,List.length_nil,Int.natCast_zero,Int.lt_irrefl,if_false]
  exact .succ (by simp only[L142_2,Bool.false_eq_true,if_false,List.map_nil,List.append_nil];exact .ret)
 | v::q,a,L,acc,h1,h2,h3,h4,h5,h6=>by
  obtain⟨f1,f2,f3,f4⟩:=pop1 (c:=⟨0,room,v::q⟩) rfl r1 r2 h1 h2 h3 h4 h5
  have hl:(v::q).length=q.length+1:=rfl
  obtain⟨a',L',k1,k2,k3⟩:=evAll r1 r2 q ((a+1) % 8) (L.set a zrow) (acc++[v.row]) (by omega) f2 (by omega) f3 f4 (by simp only[List.length_append,List.length_cons,List.length_nil];omega)
  refine⟨a',L',k1,k2,.succ ?_⟩
  simp only[L142_1,if_pos (show (0:Int)<((v::q).length:Int)by rw[hl];omega)]
  refine .succ ?_
  simp only[L142_2,if_true]
  refine Ev.bO10 (.of fun n=>f1 n) ?_
  refine Ev.bO1 (evOut v (by omega)) ?_
  rw[List.append_assoc,List.singleton_append]at k3
  exact k3
theorem evDropN {pm:List PRow}{S:List Ch}(h:QOK pm S) {z:Int}(hg:getC z S=none):Ev (fun n=>F42 n z pm) (.inr pm):=by
 rcases look z 0 h with⟨h1,h2⟩ | ⟨u,x,c,h1,h2,h3,h4,_⟩
 ·refine .of fun n=>?_
  unfold F42
  rw[ev99n h1,bSr]
 ·rw[hg]at h2;cases h2
theorem evDropS {pm:List PRow}{S:List Ch}(h:QOK pm S) {z:Int}{c:Ch}(hg:getC z S=some c):∃pm',Ev (fun n=>F42 n z pm) (.inl (pm',c.q.map VV.row))∧QOK pm' (delC z S):=by
 rcases look z 0 h with⟨h1,h2⟩ | ⟨u,x,c',h1,h2,h3,h4,_⟩
 ·rw[hg]at h2;cases h2
 ·rw[hg]at h2
  cases h2
  obtain⟨a,L,hx,r1,r2,r3,r4,r5,r6,r7⟩:=id h3
  subst hx
  rw[Nat.zero_add]at h1
  obtain⟨a',L',k1,k2,k3⟩:=evAll r1 r2 c.q a L [] r3 r4 r5 r6 r7 (by simp;omega)
  have hro:ROK (c.key,[.int .i64 c.room,.int .i64 (a':Int),.int .i64 0],L') {c with q:=[]}:=⟨a',L',rfl,r1,r2,k1,k2,by show (0:Int)≤c.room;omega,by simp,by simp⟩
  have h5:=h4 _ _ hro
  have hk:=getC_key hg
  rcases look z 0 h5 with⟨g1,g2⟩ | ⟨u',x',d,g1,g2,g3,_,g5⟩
  ·rw[getC_upd (y:=z) (by exact hk) hg,if_pos rfl]at g2;cases g2
  ·rw[delC_upd (by exact hk) hg]at g5
   refine⟨_,?_,g5⟩
   have e1:∀n,F42 n z pm=bO5 (F142 n c.room (a:Int) (c.q.length:Int) L) fun z17 z18 z19 l20 l21=>setPF pm u [.int .i64 z17,.int .i64 z18,.int .i64 z19] l20 fun pm22=>delPF z pm22 fun pm23=>some (.inl (pm23,l21)):=fun n=>by
    unfold F42
    rw[ev99s h1,bSl,bO6t]
    rfl
   refine Ev.congr (A:=fun n=>bO5 (F142 n c.room (a:Int) (c.q.length:Int) L) fun z17 z18 z19 l20 l21=>setPF pm u [.int .i64 z17,.int .i64 z18,.int .i64 z19] l20 fun pm22=>delPF z pm22 fun pm23=>some (.inl (pm23,l21))) (Ev.bO5 k3 (.of fun n=>?_)) (fun n=>(e1 n).symm)
   show (some (Sum.inl (eraseP z (pm.modify u fun r=>(r.1,[.int .i64 c.room,.int .i64 (a':Int),.int .i64 0],L')),[]++c.q.map VV.row)):Option ((List PRow×List D) ⊕ List PRow))=_
   unfold eraseP
   rw[g1]
   simp
theorem rs61 {x:D}(h:RowS tab 61 x):∃a0 a1 a2 a3 a4 a5 a6 a7 a8,x= .agg [.int .i64 a0,.int .i64 a1,.int .i64 a2,.int .u8 a3,.int .i64 a4,.str a5,.list true 6 a6,.int .i64 a7,.list false 1 a8]∧(Lit.int .i64 a0).wf=true∧(Lit.int .i64 a1).wf=true∧(Lit.int .i64 a2).wf=true∧(Lit.int .u8 a3).wf=true∧(Lit.int .i64 a4).wf=true∧a5.size≤maxLen∧ListS tab 49 a6∧(Lit.int .i64 a7).wf=true∧ListS tab 3 a8:=by
 obtain⟨cs,rfl,hs⟩:=h.agg (y:=tyD tab 61) (by kernel_rfl) rfl
 have hl:=hs.flat 9 61 [3,3,3,5,2,9,46,3,47] cs (by kernel_rfl)
 obtain⟨b0,b1,b2,b3,b4,b5,b6,b7,b8,rfl⟩:=llen9 hl.1
 obtain⟨a0,rfl,w0⟩:=(hl.2 0 b0 3 rfl rfl).intS (x:=tyD tab 3) (by kernel_rfl) rfl
 obtain⟨a1,rfl,w1⟩:=(hl.2 1 b1 3 rfl rfl).intS (x:=tyD tab 3) (by kernel_rfl) rfl
 obtain⟨a2,rfl,w2⟩:=(hl.2 2 b2 3 rfl rfl).intS (x:=tyD tab 3) (by kernel_rfl) rfl
 obtain⟨a3,rfl,w3⟩:=(hl.2 3 b3 5 rfl rfl).intS (x:=tyD tab 5) (by kernel_rfl) rfl
 obtain⟨a4,rfl,w4⟩:=(hl.2 4 b4 2 rfl rfl).intS (x:=tyD tab 2) (by kernel_rfl) rfl
 obtain⟨a5,rfl,w5⟩:=(hl.2 5 b5 9 rfl rfl).strS (x:=tyD tab 9) (by kernel_rfl) rfl
 obtain⟨a6,e6,w6⟩:=(hl.2 6 b6 46 rfl rfl).listS (x:=tyD tab 46) (y:=tyD tab 49) (by kernel_rfl) rfl (by kernel_rfl)
 obtain rfl:b6= .list true 6 a6:=e6
 obtain⟨a7,rfl,w7⟩:=(hl.2 7 b7 3 rfl rfl).intS (x:=tyD tab 3) (by kernel_rfl) rfl
 obtain⟨a8,e8,w8⟩:=(hl.2 8 b8 47 rfl rfl).listS (x:=tyD tab 47) (y:=tyD tab 3) (by kernel_rfl) rfl (by kernel_rfl)
 obtain rfl:b8= .list false 1 a8:=e8
 exact⟨_,_,_,_,_,_,_,_,_,rfl,w0,w1,w2,w3,w4,w5,w6,w7,w8⟩
theorem rs63 {x:D}(h:RowS tab 63 x):∃a0,x= .list true 9 a0∧ListS tab 61 a0:=by
 have hs:=h.flat1 (y:=tyD tab 63) (by kernel_rfl) rfl
 have hl:=hs.flat 9 63 [63] [x] (by kernel_rfl)
 obtain⟨a0,e0,w0⟩:=(hl.2 0 x 63 rfl rfl).listS (x:=tyD tab 63) (y:=tyD tab 61) (by kernel_rfl) rfl (by kernel_rfl)
 obtain rfl:x= .list true 9 a0:=e0
 exact⟨_,rfl,w0⟩
structure QA where
 kd:Int
 id:Int
 rm:Int
 v:VV
def QA.row (a:QA):D:=.agg [.int .i64 a.kd,.int .i64 a.id,.int .i64 a.rm,.int .u8 a.v.k,.int .i64 a.v.i,.str a.v.nm,.list true 6 a.v.fs,.int .i64 a.v.id,.list false 1 a.v.pt]
theorem actQ {x:D}(h:RowS tab 61 x):∃a:QA,x=a.row∧VT a.v:=by
 obtain⟨a0,a1,a2,a3,a4,a5,a6,a7,a8,rfl,w0,w1,w2,w3,w4,w5,w6,w7,w8⟩:=rs61 h
 exact⟨⟨a0,a1,a2,⟨a3,a4,a5,a6,a7,a8⟩⟩,rfl,⟨w3,w4,w5,w6,w7,w8⟩⟩
theorem dsq {γ:Type}(a:QA) (k:Int→Int→Int→Int→Int→ByteArray→List D→Int→List D→Option γ):ds_t61 a.row k=k a.kd a.id a.rm a.v.k a.v.i a.v.nm a.v.fs a.v.id a.v.pt:=rfl
theorem qrow_inj {a b:QA}(h:a.row=b.row):a.v=b.v:=by
 obtain⟨k,i,q,v⟩:=a
 obtain⟨k',i',q',v'⟩:=b
 unfold QA.row at h
 simp only[D.agg.injEq,List.cons.injEq,D.int.injEq,D.list.injEq,D.str.injEq,true_and,and_true]at h
 obtain⟨h1,h2,h3,h4,h5,h6,h7,h8,h9⟩:=h
 obtain⟨a,b,c,d,e,f⟩:=v
 obtain⟨a',b',c',d',e',f'⟩:=v'
 simp only at h4 h5 h6 h7 h8 h9
 subst h4 h5 h6 h7 h8 h9
 rfl
theorem one_sm {v:VV}(h:Sm [v.row]):v.pt.length≤10000∧Sm v.fs:=⟨h.pt (by simp),h.fs (by simp)⟩
theorem great {l:List D}(h:ListS tab 61 l):∃b,Ev (fun n=>F36 n l) b∧(b=false→l.length≤100∧∀(j:Nat) (a:QA),l[j]?=some a.row→VS a.v):=by
 unfold F36
 by_cases c:(100:Int)<(l.length:Int)
 ·refine⟨true,?_,fun h=>by cases h⟩
  simp only[lenF,if_pos c]
  exact .succ (by simp only[L36_1,if_true];exact .ret)
 have loop:∀i:Nat,i≤l.length→∀z:Int,-1≤z→z≤10000→∃b,Ev (fun n=>L36_2 n l z (i:Int)) b∧(b=false→0≤z∧∀j:Nat,i≤j→∀a:QA,l[j]?=some a.row→VS a.v):=by
  refine down _ ?_ (fun i hi ih=>?_)
  ·intro z h1 h2
   refine⟨decide (z<0),.succ ?_,fun hb=>⟨by simpa using hb,fun j hj a ha=>absurd ((List.getElem?_eq_some_iff.1 ha).1) (by omega)⟩⟩
   simp only[L36_2,lenF,Int.lt_irrefl,if_false]
   refine .succ ?_
   simp only[L36_3,Bool.false_eq_true,if_false]
   by_cases c:z<0
   ·simp only[if_pos c,decide_eq_true c];exact .ret
   ·simp only[if_neg c,decide_eq_false c];exact .ret
  ·intro z h1 h2
   obtain⟨x,hx,_,hr⟩:=h.get hi
   obtain⟨a,rfl,ha⟩:=actQ hr
   obtain⟨r,k1,k2,k3,k4⟩:=ev24 [a.v.row] (.one ha.rowS) z h1 h2
   obtain⟨b,b1,b2⟩:=ih r k2 (by omega)
   refine⟨b,.succ ?_,fun hb=>?_⟩
   ·simp only[L36_2,lenF,if_pos (ilt hi)]
    refine .succ ?_
    simp only[L36_3,if_true,getF_nat hx,dsq]
    refine Ev.bO1 k1 ?_
    simp only[letF,wrap_succ hi h.1]
    exact b1
   ·obtain⟨q1,q2⟩:=b2 hb
    refine⟨by omega,fun j hj b' hb'=>?_⟩
    by_cases e:j=i
    ·subst e
     rw[hx]at hb'
     have:=qrow_inj (Option.some.inj hb')
     obtain⟨s1,s2⟩:=one_sm (k4 q1).1
     rw[←this]
     exact⟨ha,s1,s2⟩
    ·exact q2 j (by omega) b' hb'
 obtain⟨b,b1,b2⟩:=loop 0 (Nat.zero_le _) 10000 (by omega) (by omega)
 refine⟨b,?_,fun hb=>⟨by omega,fun j a ha=>(b2 hb).2 j (Nat.zero_le _) a ha⟩⟩
 simp only[lenF,if_neg c]
 exact .succ (by simp only[L36_1,Bool.false_eq_true,if_false];exact b1)
abbrev R (l:List VV):List D:=l.map VV.row
theorem listR {l:List VV}(h:∀v∈l,VS v) (hl:l.length≤1000):ListS tab 49 (R l):=by
 have hM:1000<maxLen:=by decide
 refine⟨by simp;omega,fun y hy=>?_⟩
 obtain⟨v,hv,rfl⟩:=List.mem_map.1 hy
 exact (h v hv).t.rowS
theorem sameR {l:List VV}(h:∀v∈l,VS v) (hl:l.length≤1000):Ev (fun n=>F48 n (R l) (R l)) true:=by
 have:=sameL (R l) (R l) (listR h hl) (listR h hl)
 simpa using this
end Go.Proofs.Ytiiojajgajnhpaa
end
set_option linter.unusedVariables false
noncomputable section
namespace Go.Proofs.Ytiiojajgajnhpaa
open Go Go.AM
mutual
def L106x1_1:Nat→Int→(List D)→Int→Option (Int×List D)
 | 0,_,_,_=>none
 | n+1,z1,l2,z3=>
  lenF l2 fun z4=>(if z3<z4 then L106x1_2 n z1 l2 z3 true else L106x1_2 n z1 l2 z3 false)
def L106x1_2:Nat→Int→(List D)→Int→Bool→Option (Int×List D)
 | 0,_,_,_,_=>none
 | n+1,z1,l2,z3,b5=>
  (if b5=true then needF (0≤z3∧z3.toNat<l2.length) (getN l2 (z3.toNat) fun x6=>ds_t171 x6 fun z7 z8 l9=>(if z7=z1 then L106x1_3 n z1 l2 z3 true else L106x1_3 n z1 l2 z3 false))else some ((-1:Int),l2))
def L106x1_3:Nat→Int→(List D)→Int→Bool→Option (Int×List D)
 | 0,_,_,_,_=>none
 | n+1,z1,l2,z3,b10=>
  (if b10=true then some (z3,l2)else letF (IntKind.wrap .i64 (z3+1)) fun z11=>L106x1_1 n z1 l2 z11)
end
def F106x1 (n:Nat) (z1:Int) (l2:List D):Option (Int×List D):=
 L106x1_1 n z1 l2 (0:Int)
theorem T106x1 (n:Nat):∀⦃z1:Int⦄ ⦃l2:List D⦄ ⦃r1:Int⦄ ⦃r2:List D⦄,F106x1 n z1 l2=some (r1,r2)→
    Trip Try.prog inv 106 [.c (.ptr (.ext 0) 0),.d (.int .i64 z1)] [.cells [.ow (.ext 1)],.tree .row true 3 l2 none] (.v (.d (.int .i64 r1))) [.cells [.ow (.ext 1)],.tree .row true 3 r2 none] []:=by
 intro z1 l2 r1 r2 h
 unfold F106x1 at h
 refine Trip.of tab_ok tab_one fol Try.func106 rfl (by kernel_rfl) rfl rfl rfl (fun M hM hI=>?_)
 try cbv
 refine seq_go ?_
 try cbv
 refine seq_go ?_
 try cbv
 refine seq_go ?_
 try cbv
 refine loop_invG (T:=Nat×Int) [] [] [0,1,4,5] [.ext 0,.ext 1] 64 (fun t=>⟨[(0,.v (.c (.ptr (.ext 0) 0))),(1,.v (.d (.int .i64 z1))),(4,.v (.d (.int .i64 0))),(5,.v (.d (.int .i64 t.2)))],[(.ext 0,.cells [.ow (.ext 1)]),(.ext 1,.tree .row true 3 l2 none)],64⟩)
   (fun t=>t.1≤n∧L106x1_1 t.1 z1 l2 t.2=some (r1,r2)) (fun t=>t.1) (n,(0:Int)) ⟨Nat.le_refl _,h⟩ (by cbv) ?_
 clear h
 rintro⟨m1,z3⟩ ⟨hm1,h⟩
 replace hm1:m1≤n:=hm1
 obtain _ | m1:=m1
 ·replace h:L106x1_1 0 z1 l2 z3=some (r1,r2):=h
  rw[L106x1_1]at h
  cases h
 replace h:L106x1_1 (m1+1) z1 l2 z3=some (r1,r2):=h
 rw[L106x1_1]at h
 try cbv
 refine seq_go ?_
 try cbv
 refine seq_join (T:=Nat×Bool) (fun t=>⟨[(0,.v (.c (.ptr (.ext 0) 0))),(1,.v (.d (.int .i64 z1))),(4,.v (.d (.int .i64 0))),(5,.v (.d (.int .i64 z3))),(12,.v (.d (.bool t.2)))],[(.ext 0,.cells [.ow (.ext 1)]),(.ext 1,.tree .row true 3 l2 none)],288⟩) (fun t=>t.1≤m1∧L106x1_2 t.1 z1 l2 z3 t.2=some (r1,r2)) ?_ ?_
 ·try cbv
  replace h:=lenF_inv M h
  obtain⟨z4,hz,h⟩:=h
  refine⟨false,?_⟩
  try cbv
  refine⟨z4,hz,?_⟩
  clear hz
  try cbv
  refine splitL (fun e=>?_) (fun e=>?_)
  ·replace h:=ite_t e h
   clear e
   try cbv
   exact join_next (m1,true) [0,1,4,5,12] [.ext 0,.ext 1] 288 ⟨by omega,h⟩ (by cbv)
  replace h:=ite_f (Int.not_lt.2 e) h
  clear e
  try cbv
  exact join_next (m1,false) [0,1,4,5,12] [.ext 0,.ext 1] 288 ⟨by omega,h⟩ (by cbv)
 clear h
 rintro⟨m2,b5⟩ ⟨hm2,h⟩
 replace hm2:m2≤m1:=hm2
 obtain _ | m2:=m2
 ·replace h:L106x1_2 0 z1 l2 z3 b5=some (r1,r2):=h
  rw[L106x1_2]at h
  cases h
 replace h:L106x1_2 (m2+1) z1 l2 z3 b5=some (r1,r2):=h
 rw[L106x1_2]at h
 try cbv
 cases b5
 ·replace h:=ite_f Bool.false_ne_true h
  try cbv
  refine seq_go ?_
  try cbv
  obtain⟨rfl,rfl⟩:=inj2 h
  refine fin_go ?_
  try cbv
  exact⟨[],rfl,rfl,⟨rfl,⟨rfl,trivial⟩⟩,trivial,trivial⟩
 replace h:=ite_t rfl h
 try cbv
 refine seq_go ?_
 try cbv
 refine seq_join (T:=Nat×Bool) (fun t=>⟨[(0,.v (.c (.ptr (.ext 0) 0))),(1,.v (.d (.int .i64 z1))),(4,.v (.d (.int .i64 0))),(5,.v (.d (.int .i64 z3))),(24,.v (.d (.bool t.2)))],[(.ext 0,.cells [.ow (.ext 1)]),(.ext 1,.tree .row true 3 l2 none)],608⟩) (fun t=>t.1≤m2∧L106x1_3 t.1 z1 l2 z3 t.2=some (r1,r2)) ?_ ?_
 ·try cbv
  refine op_pl ?_
  try cbv
  replace h:=needF_inv h
  obtain⟨hn,h⟩:=h
  refine⟨(M.lock_iff _).2 hn,?_⟩
  clear hn
  try cbv
  refine⟨[],?_⟩
  try cbv
  replace h:=getN_inv h
  obtain⟨x6,hx,h⟩:=h
  replace h:=ds_t171_inv h
  obtain⟨z7,z8,l9,rfl,h⟩:=h
  refine⟨_,hx,?_⟩
  clear hx
  try cbv
  refine⟨true,?_⟩
  try cbv
  refine splitI (fun e=>?_) (fun e=>?_)
  ·replace h:=ite_t e h
   clear e
   try cbv
   exact join_next (m2,true) [0,1,4,5,24] [.ext 0,.ext 1] 608 ⟨by omega,h⟩ (by cbv)
  replace h:=ite_f e h
  clear e
  try cbv
  exact join_next (m2,false) [0,1,4,5,24] [.ext 0,.ext 1] 608 ⟨by omega,h⟩ (by cbv)
 clear h
 rintro⟨m3,b10⟩ ⟨hm3,h⟩
 replace hm3:m3≤m2:=hm3
 obtain _ | m3:=m3
 ·replace h:L106x1_3 0 z1 l2 z3 b10=some (r1,r2):=h
  rw[L106x1_3]at h
  cases h
 replace h:L106x1_3 (m3+1) z1 l2 z3 b10=some (r1,r2):=h
 rw[L106x1_3]at h
 try cbv
 cases b10
 ·replace h:=ite_f Bool.false_ne_true h
  try cbv
  replace h:=letF_inv h
  obtain⟨z11,hz,h⟩:=h
  refine⟨z11,hz,?_⟩
  clear hz
  try cbv
  refine loop_nextG (m3,z11) [] [] [0,1,4,5] [.ext 0,.ext 1] 64 ⟨by omega,h⟩ (Nat.lt_succ_of_le (by omega)) ?_
  try cbv
 replace h:=ite_t rfl h
 try cbv
 refine seq_go ?_
 try cbv
 obtain⟨rfl,rfl⟩:=inj2 h
 refine fin_go ?_
 try cbv
 exact⟨[],rfl,rfl,⟨rfl,⟨rfl,trivial⟩⟩,trivial,trivial⟩
def L102x1_1:Nat→Int→Int→Bool→(List D)→Option (((List D) ⊕ (List D)))
 | 0,_,_,_,_=>none
 | n+1,z1,z2,b6,l7=>
  (if b6=true then letL [.agg [.int .i64 z1,.int .i64 z2,.list true 6 []]] fun l8=>appF 40 l7 l8 fun l9=>some (.inl l9)else some (.inr l7))
def F102x1 (n:Nat) (z1:Int) (z2:Int) (l3:List D):Option (((List D) ⊕ (List D))):=
 bO2 (F106x1 n z1 l3) fun z4 l5=>(if z4<(0:Int)then (if (1:Int)≤z2 then (if z2≤(8:Int)then L102x1_1 n z1 z2 true l5 else L102x1_1 n z1 z2 false l5)else L102x1_1 n z1 z2 false l5)else L102x1_1 n z1 z2 false l5)
theorem T102x1 (n:Nat):∀⦃z1:Int⦄ ⦃z2:Int⦄ ⦃l3:List D⦄ ⦃r:((List D) ⊕ (List D))⦄,F102x1 n z1 z2 l3=some r→∀Q:AV→List AObj→List AObj→Prop,(match r with | .inl r1=>Q (.t []) [.cells [.ow (.loc 0)],.gone] [.tree .row true 3 r1 none] | .inr r1=>Q (.t []) [.cells [.ow (.ext 1)],.tree .row true 3 r1 none] [])→
  TripK Try.prog inv 102 [.c (.ptr (.ext 0) 0),.d (.int .i64 z1),.d (.int .i64 z2)] [.cells [.ow (.ext 1)],.tree .row true 3 l3 none] Q:=by
 intro z1 z2 l3 r h Q hQ
 unfold F102x1 at h
 refine TripK.of tab_ok tab_one fol Try.func102 rfl (by kernel_rfl) rfl rfl rfl (fun M hM hI=>?_)
 try cbv
 refine seq_join (T:=Nat×Bool×List D) (fun t=>⟨[(0,.v (.c (.ptr (.ext 0) 0))),(1,.v (.d (.int .i64 z1))),(2,.v (.d (.int .i64 z2))),(17,.v (.d (.bool t.2.1)))],[(.ext 0,.cells [.ow (.ext 1)]),(.ext 1,.tree .row true 3 t.2.2 none)],384⟩) (fun t=>t.1≤n∧L102x1_1 t.1 z1 z2 t.2.1 t.2.2=some r) ?_ ?_
 ·try cbv
  replace h:=bO2_inv h
  obtain⟨z4,l5,hr,h⟩:=h
  refine call_go rfl rfl ?_
  try cbv
  refine call_with hM hI [.ext 0,.ext 1] (T106x1 _ hr) rfl (by simp) ⟨rfl,⟨rfl,trivial⟩⟩ ⟨trivial,⟨trivial,trivial⟩⟩ (by simp) ?_
  clear hr
  try cbv
  refine splitL (fun e=>?_) (fun e=>?_)
  ·replace h:=ite_t e h
   clear e
   try cbv
   refine splitLe (fun e=>?_) (fun e=>?_)
   ·replace h:=ite_t e h
    clear e
    try cbv
    refine splitLe (fun e=>?_) (fun e=>?_)
    ·replace h:=ite_t e h
     clear e
     try cbv
     exact join_next (n,(true,l5)) [0,1,2,17] [.ext 0,.ext 1] 384 ⟨by omega,h⟩ (by cbv)
    ·replace h:=ite_f (Int.not_le.2 e) h
     clear e
     try cbv
     exact join_next (n,(false,l5)) [0,1,2,17] [.ext 0,.ext 1] 384 ⟨by omega,h⟩ (by cbv)
   ·replace h:=ite_f (Int.not_le.2 e) h
    clear e
    try cbv
    exact join_next (n,(false,l5)) [0,1,2,17] [.ext 0,.ext 1] 384 ⟨by omega,h⟩ (by cbv)
  ·replace h:=ite_f (Int.not_lt.2 e) h
   clear e
   try cbv
   exact join_next (n,(false,l5)) [0,1,2,17] [.ext 0,.ext 1] 384 ⟨by omega,h⟩ (by cbv)
 ·clear h
  rintro⟨m1,b6,l7⟩ ⟨hm1,h⟩
  replace hm1:m1≤n:=hm1
  cases m1 with
  | zero=>
   replace h:L102x1_1 0 z1 z2 b6 l7=some r:=h
   rw[L102x1_1]at h
   cases h
  | succ m1=>
   replace h:L102x1_1 (m1+1) z1 z2 b6 l7=some r:=h
   rw[L102x1_1]at h
   try cbv
   cases b6
   ·replace h:=ite_f Bool.false_ne_true h
    try cbv
    obtain rfl:=Option.some.inj h
    refine finQ_go hQ ?_
    try cbv
    exact⟨[],rfl,rfl,⟨rfl,⟨rfl,trivial⟩⟩,trivial,trivial⟩
   ·replace h:=ite_t rfl h
    try cbv
    refine⟨true,?_⟩
    try cbv
    refine⟨[],?_⟩
    try cbv
    replace h:=letL_inv h
    obtain⟨l8,hz,h⟩:=h
    refine⟨l8,hz,?_⟩
    clear hz
    try cbv
    refine op_pl ?_
    try cbv
    refine⟨true,?_⟩
    try cbv
    refine⟨true,?_⟩
    try cbv
    refine⟨[],?_⟩
    try cbv
    replace h:=appF_inv h
    obtain⟨l9,hb,hz,h⟩:=h
    refine⟨(M.lock_iff _).2 hb,l9,hz,?_⟩
    clear hb hz
    try cbv
    obtain rfl:=Option.some.inj h
    refine finQ_go hQ ?_
    try cbv
    exact⟨[.loc 672],rfl,rfl,⟨rfl,trivial⟩,⟨rfl,trivial⟩,trivial⟩
end Go.Proofs.Ytiiojajgajnhpaa
end
namespace Go.AM
open Go Go.RowKit
theorem seq_weak {M:Mach}{ea eb:St→(AExit→St→Prop)→Prop}{σ:St}{K:AExit→St→Prop}(h:ea σ fun e σ'=>match e with
  | .normal=>∃σ'',Weak σ' σ''∧eb σ'' K
  | .exit id=>K (.exit id) σ'
  | .ret=>K .ret σ'):M.lock fun _=>seqP ea eb σ K:=(M.lock_iff _).2 (.inr ⟨fun σ=>eb σ K,h,fun _ h=>h⟩)
theorem weak_same (σ:St):Weak σ σ:=fun _ _ _ h=>h
def opened (σ:St) (i:Id) (kd:Kd) (ag:Bool) (sz:Nat) (rows:List D) (k:Nat) (r:D):St:=
 ⟨σ.slots,setW σ.heap ((i,.tree kd ag sz rows (some (k,openC σ.next 0 r.cells)))::openO σ.next 0 r.cells),σ.next+32⟩
theorem weak_open {σ:St}(i:Id) {kd:Kd}(hkd:kd.froz=false) {ag:Bool}{sz:Nat}{rows:List D}(hi:getH σ.heap i=some (.tree kd ag sz rows none)) {k:Nat}{r:D}(hr:rows[k]?=some r) (hn:Nat.ble r.cells.length 32=true):
  Weak σ (opened σ i kd ag sz rows k r):=by
 rintro C a w ⟨g,R⟩
 obtain⟨g',R',_⟩:=R.openT hkd hi hr (fresh:=σ.next) (fun c _=>Nat.le_add_right _ _) (Nat.le_of_ble_eq_true hn)
 refine⟨g',?_⟩
 have R2:=R'.free_mono (F':=fun n=>σ.next+32≤n) (fun n hn=>⟨by omega,by omega⟩)
 have e:getH (opened σ i kd ag sz rows k r).heap=updW (updO (getH σ.heap) i (.tree kd ag sz rows (some (k,openC σ.next 0 r.cells)))) (openO σ.next 0 r.cells):=by
  simp only[opened,getH_setW]
  rfl
 show RelS C _ (getS σ.slots) (getH (opened σ i kd ag sz rows k r).heap) g' a w
 rw[e]
 exact R2
end Go.AM
set_option linter.unusedVariables false
noncomputable section
namespace Go.Proofs.Ytiiojajgajnhpaa
open Go Go.AM
def F45x1 (n:Nat) (z1:Int) (l2:List D):Option (Bool×List D):=
 bO2 (F106x1 n z1 l2) fun z3 l4=>(if z3<(0:Int)then some (true,l4)else needF (0≤z3∧z3.toNat<l4.length) (getN l4 (z3.toNat) fun x5=>ds_t171 x5 fun z6 z7 l8=>lenF l8 fun z9=>needF (0≤z3∧z3.toNat<l4.length) ((if z7≤z9 then setF l4 (z3.toNat) (.agg [.int .i64 z6,.int .i64 z7,.list true 6 l8]) fun l10=>some (true,l10)else setF l4 (z3.toNat) (.agg [.int .i64 z6,.int .i64 z7,.list true 6 l8]) fun l11=>some (false,l11)))))
theorem T45x1 (n:Nat):∀⦃z1:Int⦄ ⦃l2:List D⦄ ⦃r1:Bool⦄ ⦃r2:List D⦄,F45x1 n z1 l2=some (r1,r2)→
    Trip Try.prog inv 45 [.c (.ptr (.ext 0) 0),.d (.int .i64 z1)] [.cells [.ow (.ext 1)],.tree .row true 3 l2 none] (.v (.d (.bool r1))) [.cells [.ow (.ext 1)],.tree .row true 3 r2 none] []:=by
 intro z1 l2 r1 r2 h
 unfold F45x1 at h
 refine Trip.of tab_ok tab_one fol Try.func45 rfl (by kernel_rfl) rfl rfl rfl (fun M hM hI=>?_)
 try cbv
 refine seq_go ?_
 try cbv
 refine seq_weak ?_
 try cbv
 replace h:=bO2_inv h
 obtain⟨z3,l4,hr,h⟩:=h
 refine call_go rfl rfl ?_
 try cbv
 refine call_with hM hI [.ext 0,.ext 1] (T106x1 _ hr) rfl (by simp) ⟨rfl,⟨rfl,trivial⟩⟩ ⟨trivial,⟨trivial,trivial⟩⟩ (by simp) ?_
 clear hr
 try cbv
 rcases Int.lt_or_le z3 0 with e | e
 ·refine⟨_,weak_same _,?_⟩
  replace h:=ite_t e h
  try cbv
  refine seq_go ?_
  try cbv
  refine splitL (fun e=>?_) (fun e'=>absurd e (Int.not_lt.2 e'))
  clear e
  try cbv
  refine drawn ?_ ?_
  ·show _=true
   kernel_rfl
  try cbv
  obtain⟨rfl,rfl⟩:=inj2 h
  refine fin_go ?_
  try cbv
  exact⟨[],rfl,rfl,⟨rfl,⟨rfl,trivial⟩⟩,trivial,trivial⟩
 replace h:=ite_f (Int.not_lt.2 e) h
 replace h:=needF_inv h
 obtain⟨hn,h⟩:=h
 replace h:=getN_inv h
 obtain⟨x5,hx,h⟩:=h
 replace h:=ds_t171_inv h
 obtain⟨z6,z7,l8,rfl,h⟩:=h
 refine⟨_,weak_open (.ext 1) rfl rfl hx rfl,?_⟩
 clear hx
 try cbv
 refine seq_go ?_
 try cbv
 refine splitL (fun e'=>absurd e' (Int.not_lt.2 e)) (fun e=>?_)
 try cbv
 refine⟨(M.lock_iff _).2 hn,?_⟩
 clear hn
 try cbv
 refine⟨[],?_⟩
 try cbv
 first | refine⟨(rfl:(_:Nat)=_),?_⟩ | skip
 try cbv
 replace h:=lenF_inv M h
 obtain⟨z9,hz,h⟩:=h
 refine⟨false,?_⟩
 try cbv
 refine⟨z9,hz,?_⟩
 clear hz
 try cbv
 replace h:=needF_inv h
 obtain⟨hn,h⟩:=h
 refine⟨(M.lock_iff _).2 hn,?_⟩
 clear hn
 try cbv
 refine⟨[],?_⟩
 try cbv
 first | refine⟨(rfl:(_:Nat)=_),?_⟩ | skip
 try cbv
 refine splitLe (fun e=>?_) (fun e=>?_)
 ·replace h:=ite_t e h
  clear e
  try cbv
  refine drawn ?_ ?_
  ·show _=true
   kernel_rfl
  try cbv
  replace h:=setF_inv h
  obtain⟨l10,hl10,h⟩:=h
  obtain⟨rfl,rfl⟩:=inj2 h
  refine⟨_,_,_,⟨rfl,rfl,rfl⟩,[.close (.ext 1)],?_⟩
  try cbv
  refine⟨l10,hl10,?_⟩
  clear hl10
  try cbv
  exact⟨[],rfl,rfl,⟨rfl,⟨rfl,trivial⟩⟩,trivial,trivial⟩
 replace h:=ite_f (Int.not_le.2 e) h
 clear e
 try cbv
 refine drawn ?_ ?_
 ·show _=true
  kernel_rfl
 try cbv
 replace h:=setF_inv h
 obtain⟨l11,hl11,h⟩:=h
 obtain⟨rfl,rfl⟩:=inj2 h
 refine⟨_,_,_,⟨rfl,rfl,rfl⟩,[.close (.ext 1)],?_⟩
 try cbv
 refine⟨l11,hl11,?_⟩
 clear hl11
 try cbv
 exact⟨[],rfl,rfl,⟨rfl,⟨rfl,trivial⟩⟩,trivial,trivial⟩
end Go.Proofs.Ytiiojajgajnhpaa
end
namespace Go.AM
open Go Go.RowKit
def _root_.Go.Oper.aft (o:Oper) (l:Array Edge):Oper:=⟨o.dst,o.op,o.type,o.pos,l,o.guard⟩
theorem wpIn_aft {F:Fence}{n:Nat}{P:Program}{o:Oper}{l:Array Edge}{a:Act}{w:World}{K:Act→World→Prop}{Q:Exit→Act→World→Prop}(h:(o.aft l).wpIn F n P a w K Q):o.wpIn F n P a w K Q:=by
 cases o;exact h
theorem wpIn_and {F:Fence}{n:Nat}{P:Program}{o:Oper}{t:TypeId}(ho:o.op= .alloc t) {a:Act}{w:World}{K K':Act→World→Prop}{Q:Exit→Act→World→Prop}(h:o.wpIn F n P a w K Q) (h':o.wpIn F n P a w K' Q):
  o.wpIn F n P a w (fun a w=>K a w∧K' a w) Q:=by
 refine⟨h.1,?_⟩
 have h2:=h.2
 have h3:=h'.2
 have e:o.semAt F.round a.eval=(do pure (.value (←Instr.alloc t true (.tuple #[]))):Sem Next):=by
  rw[Oper.semAt_eq _ _ _ (by rw[ho];intro c hc;cases hc)]
  unfold execOp
  rw[ho]
 rw[e]at h2 h3 ⊢
 have e2:((do pure (.value (←Instr.alloc t true (.tuple #[]))):Sem Next)).run P w=(match (Instr.alloc t true (.tuple #[])).run P w with
  | .ok v w'=>.ok (.value v) w'
  | .halt s w'=>.halt s w'):=by
  rw[Sem.run_bind]
  cases (Instr.alloc t true (.tuple #[])).run P w<;>rfl
 rw[e2]at h2 h3 ⊢
 cases hr:(Instr.alloc t true (.tuple #[])).run P w with
 | ok v w'=>rw[hr]at h2 h3;exact⟨h2,h3⟩
 | halt s w'=>
  rw[hr]at h2 h3
  cases s<;>exact h2
def eD (i:Nat):Edge:=⟨i,.data⟩
def coin1 (o0 o1 o2 o3:Oper):Array Oper:=#[o0.aft #[],o1.aft #[eD 0],o2.aft #[eD 0,eD 1],o3.aft #[eD 0,eD 1,eD 2]]
def coinOps (o0 o1 o2 o3:Oper):Array Oper:=#[o0,o1,o2,o3]
def noGuard (o:Oper):Bool:=match o.guard with
 | none=>true
 | some _=>false
def isAlloc (o:Oper):Bool:=match o.op with
 | .alloc _=>true
 | _=>false
def nextOf (ops:Array Oper) (l:List Bool):List Nat:=Region.ready .any ops l.toArray
def coinB (o0 o1 o2 o3:Oper):Bool:=
 noGuard o0&&noGuard o1&&noGuard o2&&noGuard o3&&isAlloc o0&&
 (nextOf (coinOps o0 o1 o2 o3) [false,false,false,false]==[0])&&(nextOf (coinOps o0 o1 o2 o3) [true,false,false,false]==[1,2])&&
 (nextOf (coinOps o0 o1 o2 o3) [true,true,false,false]==[2])&&(nextOf (coinOps o0 o1 o2 o3) [true,false,true,false]==[1])&&
 (nextOf (coinOps o0 o1 o2 o3) [true,true,true,false]==[3])&&(nextOf (coinOps o0 o1 o2 o3) [true,true,true,true]==[])
theorem wanted_ng {o:Oper}(h:noGuard o=true) (y:Nat→Option Bool):Region.wanted o y=true:=by
 unfold noGuard at h
 unfold Region.wanted
 split at h<;>simp_all
theorem step_ng {F:Fence}{n:Nat}{P:Program}{ops:Array Oper}{Q:Exit→Act→World→Prop}{i:Nat}{o:Oper}{K:Act→World→Prop}{a:Act}{w:World}(ho:ops[i]?=some o) (hg:noGuard o=true):
  wpOpIn F n P ops Q i K a w↔o.wpIn F n P a w K Q:=by
 unfold wpOpIn
 rw[ho]
 simp only[wanted_ng hg,if_true]
theorem ng_aft {o:Oper}{l:Array Edge}:noGuard (o.aft l)=noGuard o:=by cases o;rfl
section
variable {F:Fence}{n:Nat}{P:Program}{Q:Exit→Act→World→Prop}{o0 o1 o2 o3:Oper}
theorem chain4 (h0:noGuard o0=true) (h1:noGuard o1=true) (h2:noGuard o2=true) (h3:noGuard o3=true) {a:Act}{w:World}
  (h:wpAnyIn F n P .any (coin1 o0 o1 o2 o3) Q (coin1 o0 o1 o2 o3).size (Array.replicate (coin1 o0 o1 o2 o3).size false) a w):
  o0.wpIn F n P a w (fun a w=>o1.wpIn F n P a w (fun a w=>o2.wpIn F n P a w (fun a w=>o3.wpIn F n P a w (fun a w=>Q .normal a w) Q) Q) Q) Q:=by
 have s:(coin1 o0 o1 o2 o3).size=4:=rfl
 rw[s]at h
 have r0:(0:Nat)∈Region.ready .any (coin1 o0 o1 o2 o3) (Array.replicate 4 false):=mem_ready.2 ⟨rfl,_,rfl,fun e he=>by have he:e∈(#[]:Array Edge):=he;simp at he⟩
 have h:=h.2 0 r0
 rw[step_ng (ops:=coin1 o0 o1 o2 o3) (o:=o0.aft #[]) rfl (by rw[ng_aft];exact h0)]at h
 refine Oper.wpIn_mono (fun a w h=>?_) (wpIn_aft h)
 have r1:(1:Nat)∈Region.ready .any (coin1 o0 o1 o2 o3) ((Array.replicate 4 false).setIfInBounds 0 true):=mem_ready.2 ⟨rfl,_,rfl,fun e he _=>by have he:e∈#[eD 0]:=he;simp at he;subst he;rfl⟩
 have h:=h.2 1 r1
 rw[step_ng (ops:=coin1 o0 o1 o2 o3) (o:=o1.aft #[eD 0]) rfl (by rw[ng_aft];exact h1)]at h
 refine Oper.wpIn_mono (fun a w h=>?_) (wpIn_aft h)
 have r2:(2:Nat)∈Region.ready .any (coin1 o0 o1 o2 o3) (((Array.replicate 4 false).setIfInBounds 0 true).setIfInBounds 1 true):=mem_ready.2 ⟨rfl,_,rfl,fun e he _=>by
  have he:e∈#[eD 0,eD 1]:=he
  simp at he
  rcases he with rfl | rfl<;>rfl⟩
 have h:=h.2 2 r2
 rw[step_ng (ops:=coin1 o0 o1 o2 o3) (o:=o2.aft #[eD 0,eD 1]) rfl (by rw[ng_aft];exact h2)]at h
 refine Oper.wpIn_mono (fun a w h=>?_) (wpIn_aft h)
 have r3:(3:Nat)∈Region.ready .any (coin1 o0 o1 o2 o3) ((((Array.replicate 4 false).setIfInBounds 0 true).setIfInBounds 1 true).setIfInBounds 2 true):=mem_ready.2 ⟨rfl,_,rfl,fun e he _=>by
  have he:e∈#[eD 0,eD 1,eD 2]:=he
  simp at he
  rcases he with rfl | rfl | rfl<;>rfl⟩
 have h:=h.2 3 r3
 rw[step_ng (ops:=coin1 o0 o1 o2 o3) (o:=o3.aft #[eD 0,eD 1,eD 2]) rfl (by rw[ng_aft];exact h3)]at h
 exact Oper.wpIn_mono (fun a w h=>h.2) (wpIn_aft h)
theorem coin_any (hc:coinB o0 o1 o2 o3=true) {a:Act}{w:World}
  (h:wpAnyIn F n P .any (coin1 o0 o1 o2 o3) Q (coin1 o0 o1 o2 o3).size (Array.replicate (coin1 o0 o1 o2 o3).size false) a w)
  (h':wpAnyIn F n P .any (coin1 o0 o2 o1 o3) Q (coin1 o0 o2 o1 o3).size (Array.replicate (coin1 o0 o2 o1 o3).size false) a w):
  wpAnyIn F n P .any (coinOps o0 o1 o2 o3) Q (coinOps o0 o1 o2 o3).size (Array.replicate (coinOps o0 o1 o2 o3).size false) a w:=by
 simp only[coinB,Bool.and_eq_true,beq_iff_eq,nextOf]at hc
 obtain⟨⟨⟨⟨⟨⟨⟨⟨⟨⟨g0,g1⟩,g2⟩,g3⟩,ga⟩,r0⟩,r1⟩,r2⟩,r3⟩,r4⟩,r5⟩:=hc
 have a1:=chain4 g0 g1 g2 g3 h
 have a2:=chain4 g0 g2 g1 g3 h'
 obtain⟨t,ht⟩:∃t,o0.op= .alloc t:=by
  unfold isAlloc at ga
  split at ga
  ·exact⟨_,by assumption⟩
  ·cases ga
 have hh:=wpIn_and ht a1 a2
 have last:∀(l:Array Bool) (a:Act) (w:World),l=#[true,true,true,false]→o3.wpIn F n P a w (fun a w=>Q .normal a w) Q→wpAnyIn F n P .any (coinOps o0 o1 o2 o3) Q 1 l a w:=by
  rintro l a w rfl h
  refine⟨fun e=>?_,fun i hi=>?_⟩
  ·have:=r4.symm.trans e;cases this
  ·have hi:i∈[3]:=by rw[←r4];exact hi
   simp at hi
   subst hi
   rw[step_ng (ops:=coinOps o0 o1 o2 o3) (o:=o3) rfl g3]
   exact Oper.wpIn_mono (fun a w h=>⟨r5,h⟩) h
 refine⟨fun e=>?_,fun i hi=>?_⟩
 ·have:=r0.symm.trans e;cases this
 ·have hi:i∈[0]:=by rw[←r0];exact hi
  simp at hi
  subst hi
  rw[step_ng (ops:=coinOps o0 o1 o2 o3) (o:=o0) rfl g0]
  refine Oper.wpIn_mono (fun a w h=>?_) hh
  refine⟨fun e=>?_,fun i hi=>?_⟩
  ·have:=r1.symm.trans e;cases this
  ·have hi:i∈[1,2]:=by rw[←r1];exact hi
   simp at hi
   rcases hi with rfl | rfl
   ·rw[step_ng (ops:=coinOps o0 o1 o2 o3) (o:=o1) rfl g1]
    refine Oper.wpIn_mono (fun a w h=>?_) h.1
    refine⟨fun e=>?_,fun i hi=>?_⟩
    ·have:=r2.symm.trans e;cases this
    ·have hi:i∈[2]:=by rw[←r2];exact hi
     simp at hi
     subst hi
     rw[step_ng (ops:=coinOps o0 o1 o2 o3) (o:=o2) rfl g2]
     exact Oper.wpIn_mono (fun a w h=>last _ a w rfl h) h
   ·rw[step_ng (ops:=coinOps o0 o1 o2 o3) (o:=o2) rfl g2]
    refine Oper.wpIn_mono (fun a w h=>?_) h.2
    refine⟨fun e=>?_,fun i hi=>?_⟩
    ·have:=r3.symm.trans e;cases this
    ·have hi:i∈[1]:=by rw[←r3];exact hi
     simp at hi
     subst hi
     rw[step_ng (ops:=coinOps o0 o1 o2 o3) (o:=o1) rfl g1]
     exact Oper.wpIn_mono (fun a w h=>last _ a w rfl h) h
end
def execCoin (ti:Types) (M:Mach) (nt:Nat) (ops:Array Oper) (σ:St) (K:St→Prop):Prop:=
 execDraw ti M nt ops σ K∨∃o0 o1 o2 o3,ops=coinOps o0 o1 o2 o3∧(M.lock fun _=>coinB o0 o1 o2 o3=true)∧execDraw ti M nt (coin1 o0 o1 o2 o3) σ K∧execDraw ti M nt (coin1 o0 o2 o1 o3) σ K
theorem coin_P {P:Program}{ti:Types}(hti:TIok P ti) (h1:TIone ti) (hm:P.follows .mixedOrders=true):∀C:Cx,C.P=P→DrawOK C (execCoin ti C.M C.nt):=fun C hC=>by
 have hti':TIok C.P ti:=by rw[hC];exact hti
 have hm':C.P.follows .mixedOrders=true:=by rw[hC];exact hm
 intro id ops σ K Q a w hQ hk R
 rcases hk with hk | ⟨o0,o1,o2,o3,rfl,hc,k1,k2⟩
 ·exact draw_ok hti' h1 hm' id ops σ K Q a w hQ hk R
 ·exact wpIn_region_any hm' (coin_any ((C.M.lock_iff _).1 hc) (draw_any hti' h1 _ σ K Q a w hQ k1 R) (draw_any hti' h1 _ σ K Q a w hQ k2 R))
theorem Trip.ofCoin {P:Program}{I:Inv}{ti:Types}(hti:TIok P ti) (h1:TIone ti) (hm:P.follows .mixedOrders=true) {f:FuncId}{fn:Func}{c:Code}(hf:P.funcs[f]?=some fn) (hb:fn.body=some c)
  (hname:(fn.name== "runtime.NumGoroutine")=false) {args:List V1} {pre post new:List AObj} {res:AV} {nt:Nat} (hnt:fn.ntmps=nt) (hargs:Nat.ble args.length nt=true) {rs:List ResultVar} (hrs:fn.results.toList=rs)
  (hx:∀M:Mach,M.P=P→M.I=I→exec M ti nt (execCoin ti M nt) c ⟨slotsOf args 0,extsOf pre 0,0⟩ fun e σ=>match e with
   | .exit _=>False
   | .normal=>∃r p n,(r=res∧p=post∧n=new)∧Fin' ti rs σ r p n
   | .ret=>∃r p n,(r=res∧p=post∧n=new)∧Fin' ti rs σ r p n):Trip P I f args pre res post new:=by
 subst hnt
 subst hrs
 exact TripK.intro (fun M nt=>execCoin ti M nt) hti h1 (coin_P hti h1 hm) hf hb hname (Nat.le_of_ble_eq_true hargs) hx
end Go.AM
set_option linter.unusedVariables false
noncomputable section
namespace Go.Proofs.Ytiiojajgajnhpaa
open Go Go.AM
def F103x1 (n:Nat) (z1:Int) (z2:Int) (z3:Int) (s4:ByteArray) (l5:List D) (z6:Int) (l7:List D) (l8:List D):Option (Bool×List D):=
 bO2 (F45x1 n z1 l8) fun b9 l10=>(if b9=true then some (false,l10)else bO2 (F106x1 n z1 l10) fun z11 l12=>needF (0≤z11∧z11.toNat<l12.length) (getN l12 (z11.toNat) fun x13=>ds_t171 x13 fun z14 z15 l16=>bO6 (F29 n z2 z3 s4 l5 z6 l7) fun z17 z18 s19 z20 l21 l22=>appF 88 l16 ([.agg [.int .u8 z17,.int .i64 z18,.str s19,.list true 6 l21,.int .i64 z20,.list false 1 l22]]) fun l23=>needF (0≤z11∧z11.toNat<l12.length) (setF l12 (z11.toNat) (.agg [.int .i64 z14,.int .i64 z15,.list true 6 l23]) fun l24=>some (true,l24))))
theorem inplace103 {n:Nat}{z2 z3:Int}{s4:ByteArray}{l5:List D}{z6:Int}{l7:List D}{z11:Int}{l12:List D}{r:Bool×List D}
  (h:(needF (0≤z11∧z11.toNat<l12.length) (getN l12 (z11.toNat) fun x13=>ds_t171 x13 fun z14 z15 l16=>bO6 (F29 n z2 z3 s4 l5 z6 l7) fun z17 z18 s19 z20 l21 l22=>appF 88 l16 ([.agg [.int .u8 z17,.int .i64 z18,.str s19,.list true 6 l21,.int .i64 z20,.list false 1 l22]]) fun l23=>needF (0≤z11∧z11.toNat<l12.length) (setF l12 (z11.toNat) (.agg [.int .i64 z14,.int .i64 z15,.list true 6 l23]) fun l24=>some (true,l24))))=some r):
  (needF (0≤z11∧z11.toNat<l12.length) (getN l12 (z11.toNat) fun x13=>ds_t171 x13 fun z14 z15 l16=>bO6 (F29 n z2 z3 s4 l5 z6 l7) fun z17 z18 s19 z20 l21 l22=>lenF l16 fun z23=>letL [.agg [.int .u8 0,.int .i64 0,.str ByteArray.empty,.list true 6 [],.int .i64 0,.list false 1 []]] fun l24=>appF 88 l16 l24 fun l25=>needF (0≤z11∧z11.toNat<l12.length) (needF (0≤z23∧z23.toNat<l25.length) (getN l25 (z23.toNat) fun x26=>ds_t49 x26 fun z27 z28 s29 l30 z31 l32=>setF l25 (z23.toNat) (.agg [.int .u8 z17,.int .i64 z18,.str s19,.list true 6 l21,.int .i64 z20,.list false 1 l22]) fun l33=>setF l12 (z11.toNat) (.agg [.int .i64 z14,.int .i64 z15,.list true 6 l33]) fun l34=>some (true,l34)))))=some r:=by
 replace h:=needF_inv h
 obtain⟨hn,h⟩:=h
 replace h:=getN_inv h
 obtain⟨x,hx,h⟩:=h
 replace h:=ds_t171_inv h
 obtain⟨z14,z15,l16,rfl,h⟩:=h
 replace h:=bO6_inv h
 obtain⟨z17,z18,s19,z20,l21,l22,hr,h⟩:=h
 replace h:=appF_inv h
 obtain⟨l23,hb,rfl,h⟩:=h
 replace h:=needF_inv h
 obtain⟨_,h⟩:=h
 have e1:∀z:D,(l16++[z])[((l16.length:Int)).toNat]?=some z:=by intro z;simp
 have e2:∀z y:D,(l16++[z]).set ((l16.length:Int)).toNat y=l16++[y]:=by intro z y;simp
 have hb':∀z:D,l16.length+([z]:List D).length≤maxLen∧(l16.length+([z]:List D).length)*88≤140737488355328:=fun _=>hb
 simp only[needF,if_pos hn,getN,hx,ds_t171,bO6,hr,lenF,letL,appF,if_pos (hb' _),e1,ds_t49,setF,e2]
 rw[if_pos ⟨Int.natCast_nonneg _,by simp⟩]
 simpa only[setF] using h
theorem T103x1 (n:Nat):∀⦃z1:Int⦄ ⦃z2:Int⦄ ⦃z3:Int⦄ ⦃s4:ByteArray⦄ ⦃l5:List D⦄ ⦃z6:Int⦄ ⦃l7:List D⦄ ⦃l8:List D⦄ ⦃r1:Bool⦄ ⦃r2:List D⦄,F103x1 n z1 z2 z3 s4 l5 z6 l7 l8=some (r1,r2)→
    Trip Try.prog inv 103 [.c (.ptr (.ext 0) 0),.d (.int .i64 z1),.d (.agg [.int .u8 z2,.int .i64 z3,.str s4,.list true 6 l5,.int .i64 z6,.list false 1 l7])] [.cells [.ow (.ext 1)],.tree .row true 3 l8 none] (.v (.d (.bool r1))) [.cells [.ow (.ext 1)],.tree .row true 3 r2 none] []:=by
 intro z1 z2 z3 s4 l5 z6 l7 l8 r1 r2 h
 unfold F103x1 at h
 refine Trip.ofCoin tab_ok tab_one fol Try.func103 rfl (by kernel_rfl) rfl rfl rfl (fun M hM hI=>?_)
 try cbv
 refine seq_go ?_
 try cbv
 refine seq_go ?_
 try cbv
 refine seq_go ?_
 try cbv
 replace h:=bO2_inv h
 obtain⟨b9,l10,hr,h⟩:=h
 refine call_go rfl rfl ?_
 try cbv
 refine call_with hM hI [.ext 0,.ext 1] (T45x1 _ hr) rfl (by simp) ⟨rfl,⟨rfl,trivial⟩⟩ ⟨trivial,⟨trivial,trivial⟩⟩ (by simp) ?_
 clear hr
 try cbv
 cases b9
 rotate_left
 ·replace h:=ite_t rfl h
  try cbv
  refine seq_go ?_
  try cbv
  obtain⟨rfl,rfl⟩:=inj2 h
  refine fin_go ?_
  try cbv
  exact⟨[],rfl,rfl,⟨rfl,⟨rfl,trivial⟩⟩,trivial,trivial⟩
 replace h:=ite_f Bool.false_ne_true h
 try cbv
 refine seq_go ?_
 try cbv
 replace h:=bO2_inv h
 obtain⟨z11,l12,hr,h⟩:=h
 refine call_go rfl rfl ?_
 try cbv
 refine call_with hM hI [.ext 0,.ext 1] (T106x1 _ hr) rfl (by simp) ⟨rfl,⟨rfl,trivial⟩⟩ ⟨trivial,⟨trivial,trivial⟩⟩ (by simp) ?_
 clear hr
 try cbv
 refine seq_go ?_
 try cbv
 refine seq_go ?_
 try cbv
 refine .inr ⟨_,_,_,_,rfl,(M.lock_iff _).2 (by kernel_rfl),?_,?_⟩
 ·try cbv
  refine drawn ?_ ?_
  ·show _=true
   kernel_rfl
  try cbv
  refine .inl ?_
  replace h:=needF_inv h
  obtain⟨hn,h⟩:=h
  refine⟨(M.lock_iff _).2 hn,?_⟩
  clear hn
  try cbv
  refine⟨[],?_⟩
  try cbv
  replace h:=getN_inv h
  obtain⟨x13,hx,h⟩:=h
  replace h:=ds_t171_inv h
  obtain⟨z14,z15,l16,rfl,h⟩:=h
  refine⟨_,hx,?_⟩
  clear hx
  try cbv
  refine⟨false,?_⟩
  try cbv
  replace h:=bO6_inv h
  obtain⟨z17,z18,s19,z20,l21,l22,hr,h⟩:=h
  first | refine .inr (.inl ⟨[],?_⟩) | refine .inl ⟨[],?_⟩
  try cbv
  refine call_with hM hI [] (T29 _ hr) rfl (by simp) trivial trivial (by simp) ?_
  clear hr
  try cbv
  refine⟨false,?_⟩
  try cbv
  refine⟨false,?_⟩
  try cbv
  refine⟨true,?_⟩
  try cbv
  refine⟨true,?_⟩
  try cbv
  refine⟨[],?_⟩
  try cbv
  replace h:=appF_inv h
  obtain⟨l23,hb,hz,h⟩:=h
  refine⟨[.agg [.int .u8 z17,.int .i64 z18,.str s19,.list true 6 l21,.int .i64 z20,.list false 1 l22]],rfl,?_⟩
  try cbv
  refine⟨(M.lock_iff _).2 hb,l23,hz,?_⟩
  clear hb hz
  try cbv
  replace h:=needF_inv h
  obtain⟨hn,h⟩:=h
  refine⟨(M.lock_iff _).2 hn,?_⟩
  clear hn
  try cbv
  refine⟨[],?_⟩
  try cbv
  first | refine⟨(rfl:(_:Nat)=_),?_⟩ | skip
  try cbv
  refine drawn ?_ ?_
  ·show _=true
   kernel_rfl
  try cbv
  refine seq_go ?_
  try cbv
  replace h:=setF_inv h
  obtain⟨l24,hl24,h⟩:=h
  obtain⟨rfl,rfl⟩:=inj2 h
  refine⟨_,_,_,⟨rfl,rfl,rfl⟩,[.close (.ext 1)],?_⟩
  try cbv
  refine⟨l24,hl24,?_⟩
  clear hl24
  try cbv
  exact⟨[],rfl,rfl,⟨rfl,⟨rfl,trivial⟩⟩,trivial,trivial⟩
 try cbv
 refine drawn ?_ ?_
 ·show _=true
  kernel_rfl
 try cbv
 replace h:=inplace103 h
 refine seq_go ?_
 try cbv
 refine .inl ?_
 replace h:=needF_inv h
 obtain⟨hn,h⟩:=h
 refine⟨(M.lock_iff _).2 hn,?_⟩
 clear hn
 try cbv
 refine⟨[],?_⟩
 try cbv
 replace h:=getN_inv h
 obtain⟨x13,hx,h⟩:=h
 replace h:=ds_t171_inv h
 obtain⟨z14,z15,l16,rfl,h⟩:=h
 refine⟨_,hx,?_⟩
 clear hx
 try cbv
 refine⟨false,?_⟩
 try cbv
 replace h:=bO6_inv h
 obtain⟨z17,z18,s19,z20,l21,l22,hr,h⟩:=h
 first | refine .inr (.inl ⟨[],?_⟩) | refine .inl ⟨[],?_⟩
 try cbv
 refine call_with hM hI [] (T29 _ hr) rfl (by simp) trivial trivial (by simp) ?_
 clear hr
 try cbv
 replace h:=lenF_inv M h
 obtain⟨z23,hz,h⟩:=h
 refine⟨false,?_⟩
 try cbv
 refine⟨z23,hz,?_⟩
 clear hz
 try cbv
 refine⟨true,?_⟩
 try cbv
 refine⟨[],?_⟩
 try cbv
 replace h:=letL_inv h
 obtain⟨l24,hz,h⟩:=h
 refine⟨l24,hz,?_⟩
 clear hz
 try cbv
 refine⟨true,?_⟩
 try cbv
 refine⟨true,?_⟩
 try cbv
 refine⟨[],?_⟩
 try cbv
 replace h:=appF_inv h
 obtain⟨l25,hb,hz,h⟩:=h
 refine⟨(M.lock_iff _).2 hb,l25,hz,?_⟩
 clear hb hz
 try cbv
 replace h:=needF_inv h
 obtain⟨hn,h⟩:=h
 refine⟨(M.lock_iff _).2 hn,?_⟩
 clear hn
 try cbv
 refine⟨[],?_⟩
 try cbv
 first | refine⟨(rfl:(_:Nat)=_),?_⟩ | skip
 try cbv
 refine drawn ?_ ?_
 ·show _=true
  kernel_rfl
 try cbv
 refine op_pl ?_
 try cbv
 replace h:=needF_inv h
 obtain⟨hn,h⟩:=h
 refine⟨(M.lock_iff _).2 hn,?_⟩
 clear hn
 try cbv
 refine⟨[],?_⟩
 try cbv
 replace h:=getN_inv h
 obtain⟨x26,hx,h⟩:=h
 replace h:=ds_t49_inv h
 obtain⟨z27,z28,s29,l30,z31,l32,rfl,h⟩:=h
 refine⟨_,hx,?_⟩
 clear hx
 try cbv
 refine seq_go ?_
 try cbv
 replace h:=setF_inv h
 obtain⟨l33,hl33,h⟩:=h
 replace h:=setF_inv h
 obtain⟨l34,hl34,h⟩:=h
 obtain⟨rfl,rfl⟩:=inj2 h
 refine⟨_,_,_,⟨rfl,rfl,rfl⟩,[.close (.loc 800),.close (.ext 1)],?_⟩
 try cbv
 refine⟨l33,hl33,?_⟩
 clear hl33
 try cbv
 refine⟨l34,hl34,?_⟩
 clear hl34
 try cbv
 exact⟨[],rfl,rfl,⟨rfl,⟨rfl,trivial⟩⟩,trivial,trivial⟩
def F46x1 (n:Nat) (z1:Int) (l2:List D):Option (Bool×List D):=
 bO2 (F106x1 n z1 l2) fun z3 l4=>(if z3<(0:Int)then some (true,l4)else needF (0≤z3∧z3.toNat<l4.length) (getN l4 (z3.toNat) fun x5=>ds_t171 x5 fun z6 z7 l8=>lenF l8 fun z9=>(if z9=(0:Int)then setF l4 (z3.toNat) (.agg [.int .i64 z6,.int .i64 z7,.list true 6 l8]) fun l10=>some (true,l10)else setF l4 (z3.toNat) (.agg [.int .i64 z6,.int .i64 z7,.list true 6 l8]) fun l11=>some (false,l11))))
theorem T46x1 (n:Nat):∀⦃z1:Int⦄ ⦃l2:List D⦄ ⦃r1:Bool⦄ ⦃r2:List D⦄,F46x1 n z1 l2=some (r1,r2)→
    Trip Try.prog inv 46 [.c (.ptr (.ext 0) 0),.d (.int .i64 z1)] [.cells [.ow (.ext 1)],.tree .row true 3 l2 none] (.v (.d (.bool r1))) [.cells [.ow (.ext 1)],.tree .row true 3 r2 none] []:=by
 intro z1 l2 r1 r2 h
 unfold F46x1 at h
 refine Trip.of tab_ok tab_one fol Try.func46 rfl (by kernel_rfl) rfl rfl rfl (fun M hM hI=>?_)
 try cbv
 refine seq_go ?_
 try cbv
 refine seq_go ?_
 try cbv
 replace h:=bO2_inv h
 obtain⟨z3,l4,hr,h⟩:=h
 refine call_go rfl rfl ?_
 try cbv
 refine call_with hM hI [.ext 0,.ext 1] (T106x1 _ hr) rfl (by simp) ⟨rfl,⟨rfl,trivial⟩⟩ ⟨trivial,⟨trivial,trivial⟩⟩ (by simp) ?_
 clear hr
 try cbv
 refine seq_go ?_
 try cbv
 refine splitL (fun e=>?_) (fun e=>?_)
 ·replace h:=ite_t e h
  clear e
  try cbv
  obtain⟨rfl,rfl⟩:=inj2 h
  refine fin_go ?_
  try cbv
  exact⟨[],rfl,rfl,⟨rfl,⟨rfl,trivial⟩⟩,trivial,trivial⟩
 replace h:=ite_f (Int.not_lt.2 e) h
 clear e
 try cbv
 refine op_pl ?_
 try cbv
 replace h:=needF_inv h
 obtain⟨hn,h⟩:=h
 refine⟨(M.lock_iff _).2 hn,?_⟩
 clear hn
 try cbv
 refine⟨[],?_⟩
 try cbv
 replace h:=getN_inv h
 obtain⟨x5,hx,h⟩:=h
 replace h:=ds_t171_inv h
 obtain⟨z6,z7,l8,rfl,h⟩:=h
 refine⟨_,hx,?_⟩
 clear hx
 try cbv
 refine⟨false,?_⟩
 try cbv
 replace h:=lenF_inv M h
 obtain⟨z9,hz,h⟩:=h
 refine⟨false,?_⟩
 try cbv
 refine⟨z9,hz,?_⟩
 clear hz
 try cbv
 refine splitI (fun e=>?_) (fun e=>?_)
 ·replace h:=ite_t e h
  clear e
  try cbv
  replace h:=setF_inv h
  obtain⟨l10,hl10,h⟩:=h
  obtain⟨rfl,rfl⟩:=inj2 h
  refine⟨_,_,_,⟨rfl,rfl,rfl⟩,[.close (.ext 1)],?_⟩
  try cbv
  refine⟨l10,hl10,?_⟩
  clear hl10
  try cbv
  exact⟨[],rfl,rfl,⟨rfl,⟨rfl,trivial⟩⟩,trivial,trivial⟩
 replace h:=ite_f e h
 clear e
 try cbv
 replace h:=setF_inv h
 obtain⟨l11,hl11,h⟩:=h
 obtain⟨rfl,rfl⟩:=inj2 h
 refine⟨_,_,_,⟨rfl,rfl,rfl⟩,[.close (.ext 1)],?_⟩
 try cbv
 refine⟨l11,hl11,?_⟩
 clear hl11
 try cbv
 exact⟨[],rfl,rfl,⟨rfl,⟨rfl,trivial⟩⟩,trivial,trivial⟩
def F104x1 (n:Nat) (z1:Int) (l2:List D):Option (((List D) ⊕ (Int×Int×ByteArray×List D×Int×List D×List D))):=
 bO2 (F46x1 n z1 l2) fun b3 l4=>(if b3=true then some (.inl l4)else bO2 (F106x1 n z1 l4) fun z5 l6=>needF (0≤z5∧z5.toNat<l6.length) (getN l6 (z5.toNat) fun x7=>ds_t171 x7 fun z8 z9 l10=>getF l10 0 fun x11=>ds_t49 x11 fun z12 z13 s14 l15 z16 l17=>needF (0≤z5∧z5.toNat<l6.length) (fromF l10 (1:Int) fun l18=>bO1 (F93 n l18) fun l19=>needF (0≤z5∧z5.toNat<l6.length) (setF l6 (z5.toNat) (.agg [.int .i64 z8,.int .i64 z9,.list true 6 l19]) fun l20=>some (.inr (z12,z13,s14,l15,z16,l17,l20))))))
theorem T104x1 (n:Nat):∀⦃z1:Int⦄ ⦃l2:List D⦄ ⦃r:((List D) ⊕ (Int×Int×ByteArray×List D×Int×List D×List D))⦄,F104x1 n z1 l2=some r→∀Q:AV→List AObj→List AObj→Prop,(match r with | .inl r1=>Q (.t [.agg [.d (.int .u8 0),.d (.int .i64 0),.d (.str ByteArray.empty),.ow (.loc 0),.d (.int .i64 0),.ow (.loc 1)],.d (.bool false)]) [.cells [.ow (.ext 1)],.tree .row true 3 r1 none] [.tree .row true 6 [] none,.tree .row false 1 [] none] | .inr (r1,r2,r3,r4,r5,r6,r7)=>Q (.t [.d (.agg [.int .u8 r1,.int .i64 r2,.str r3,.list true 6 r4,.int .i64 r5,.list false 1 r6]),.d (.bool true)]) [.cells [.ow (.ext 1)],.tree .row true 3 r7 none] [])→
    TripK Try.prog inv 104 [.c (.ptr (.ext 0) 0),.d (.int .i64 z1)] [.cells [.ow (.ext 1)],.tree .row true 3 l2 none] Q:=by
 intro z1 l2 r h Q hQ
 unfold F104x1 at h
 refine TripK.of tab_ok tab_one fol Try.func104 rfl (by kernel_rfl) rfl rfl rfl (fun M hM hI=>?_)
 try cbv
 refine seq_go ?_
 try cbv
 refine seq_go ?_
 try cbv
 refine seq_go ?_
 try cbv
 replace h:=bO2_inv h
 obtain⟨b3,l4,hr,h⟩:=h
 refine call_go rfl rfl ?_
 try cbv
 refine call_with hM hI [.ext 0,.ext 1] (T46x1 _ hr) rfl (by simp) ⟨rfl,⟨rfl,trivial⟩⟩ ⟨trivial,⟨trivial,trivial⟩⟩ (by simp) ?_
 clear hr
 try cbv
 cases b3
 rotate_left
 ·replace h:=ite_t rfl h
  try cbv
  refine seq_go ?_
  try cbv
  obtain rfl:=Option.some.inj h
  refine⟨_,_,_,hQ,[.treeC (.loc 0) 3 true 6,.treeC (.loc 0) 5 false 1],?_⟩
  try cbv
  exact⟨[.loc 256,.loc 288],rfl,rfl,⟨rfl,⟨rfl,trivial⟩⟩,⟨rfl,⟨rfl,trivial⟩⟩,trivial⟩
 replace h:=ite_f Bool.false_ne_true h
 try cbv
 refine seq_go ?_
 try cbv
 replace h:=bO2_inv h
 obtain⟨z5,l6,hr,h⟩:=h
 refine call_go rfl rfl ?_
 try cbv
 refine call_with hM hI [.ext 0,.ext 1] (T106x1 _ hr) rfl (by simp) ⟨rfl,⟨rfl,trivial⟩⟩ ⟨trivial,⟨trivial,trivial⟩⟩ (by simp) ?_
 clear hr
 try cbv
 refine seq_go ?_
 try cbv
 refine op_pl ?_
 try cbv
 replace h:=needF_inv h
 obtain⟨hn,h⟩:=h
 refine⟨(M.lock_iff _).2 hn,?_⟩
 clear hn
 try cbv
 refine⟨[],?_⟩
 try cbv
 replace h:=getN_inv h
 obtain⟨x7,hx,h⟩:=h
 replace h:=ds_t171_inv h
 obtain⟨z8,z9,l10,rfl,h⟩:=h
 refine⟨_,hx,?_⟩
 clear hx
 try cbv
 refine⟨false,?_⟩
 try cbv
 refine op_gs [.freeze (.loc 514)] ?_
 try cbv
 first | refine⟨(rfl:(_:Nat)=_),?_⟩ | refine⟨True.intro,?_⟩ | skip
 try cbv
 replace h:=getF_inv h
 obtain⟨x11,hx11,h⟩:=h
 replace h:=ds_t49_inv h
 obtain⟨z12,z13,s14,l15,z16,l17,rfl,h⟩:=h
 refine⟨_,hx11.1,hx11.2,?_⟩
 try cbv
 refine seq_go ?_
 try cbv
 replace h:=needF_inv h
 obtain⟨hn,h⟩:=h
 refine⟨(M.lock_iff _).2 hn,?_⟩
 clear hn
 try cbv
 refine⟨[],?_⟩
 try cbv
 first | refine⟨(rfl:(_:Nat)=_),?_⟩ | skip
 try cbv
 replace h:=fromF_inv M h
 obtain⟨l18,hb,hz,h⟩:=h
 refine⟨l18,hb,hz,?_⟩
 clear hb hz
 try cbv
 replace h:=bO1_inv h
 obtain⟨l19,hr,h⟩:=h
 first | refine .inr (.inl ⟨[],?_⟩) | refine .inl ⟨[],?_⟩
 try cbv
 refine call_with hM hI [] (T93 _ hr) rfl (by simp) trivial trivial (by simp) ?_
 clear hr
 try cbv
 replace h:=needF_inv h
 obtain⟨hn,h⟩:=h
 refine⟨(M.lock_iff _).2 hn,?_⟩
 clear hn
 try cbv
 refine⟨[],?_⟩
 try cbv
 first | refine⟨(rfl:(_:Nat)=_),?_⟩ | skip
 try cbv
 refine drawn ?_ ?_
 ·show _=true
  kernel_rfl
 try cbv
 refine seq_go ?_
 try cbv
 replace h:=setF_inv h
 obtain⟨l20,hl20,h⟩:=h
 obtain rfl:=Option.some.inj h
 refine⟨_,_,_,hQ,[.close (.ext 1)],?_⟩
 try cbv
 refine⟨l20,hl20,?_⟩
 clear hl20
 try cbv
 exact⟨[],rfl,rfl,⟨rfl,⟨rfl,trivial⟩⟩,trivial,trivial⟩
def L105x1_1:Nat→Int→(List D)→Bool→Option (((List D) ⊕ (List D×List D)))
 | 0,_,_,_=>none
 | n+1,z3,l4,b5=>
  (if b5=true then some (.inl l4)else needF (0≤z3∧z3.toNat<l4.length) (getN l4 (z3.toNat) fun x6=>ds_t171 x6 fun z7 z8 l9=>needF (z3=((z3.toNat:Nat):Int)) (letL (l4.take (z3.toNat)) fun l10=>letL (l4.drop (z3.toNat+1)) fun l11=>appF 40 ([]:List D) l10 fun l12=>letF (IntKind.wrap .i64 (z3+1)) fun z13=>needF (z13=((z3.toNat+1:Nat):Int)) (appF 40 l12 l11 fun l14=>some (.inr (l9,l14))))))
def F105x1 (n:Nat) (z1:Int) (l2:List D):Option (((List D) ⊕ (List D×List D))):=
 bO2 (F106x1 n z1 l2) fun z3 l4=>(if z3<(0:Int)then L105x1_1 n z3 l4 true else L105x1_1 n z3 l4 false)
theorem T105x1 (n:Nat):∀⦃z1:Int⦄ ⦃l2:List D⦄ ⦃r:((List D) ⊕ (List D×List D))⦄,F105x1 n z1 l2=some r→∀Q:AV→List AObj→List AObj→Prop,(match r with | .inl r1=>Q (.v (.c (.ow (.loc 0)))) [.cells [.ow (.ext 1)],.tree .row true 3 r1 none] [.tree .row true 6 [] none] | .inr (r1,r2)=>Q (.v (.c (.ow (.loc 0)))) [.cells [.ow (.loc 1)],.gone] [.tree .row true 6 r1 none,.tree .row true 3 r2 none])→
    TripK Try.prog inv 105 [.c (.ptr (.ext 0) 0),.d (.int .i64 z1)] [.cells [.ow (.ext 1)],.tree .row true 3 l2 none] Q:=by
 intro z1 l2 r h Q hQ
 unfold F105x1 at h
 refine TripK.of tab_ok tab_one fol Try.func105 rfl (by kernel_rfl) rfl rfl rfl (fun M hM hI=>?_)
 try cbv
 refine seq_go ?_
 try cbv
 refine seq_go ?_
 try cbv
 replace h:=bO2_inv h
 obtain⟨z3,l4,hr,h⟩:=h
 refine call_go rfl rfl ?_
 try cbv
 refine call_with hM hI [.ext 0,.ext 1] (T106x1 _ hr) rfl (by simp) ⟨rfl,⟨rfl,trivial⟩⟩ ⟨trivial,⟨trivial,trivial⟩⟩ (by simp) ?_
 clear hr
 try cbv
 refine seq_go ?_
 try cbv
 refine seq_join (T:=Nat×Bool) (fun t=>⟨[(0,.v (.c (.ptr (.ext 0) 0))),(4,.v (.c (.nils true 6))),(5,.v (.d (.int .i64 z3))),(12,.v (.d (.bool t.2)))],[(.ext 0,.cells [.ow (.ext 1)]),(.ext 1,.tree .row true 3 l4 none)],224⟩) (fun t=>t.1≤n∧L105x1_1 t.1 z3 l4 t.2=some r) ?_ ?_
 ·try cbv
  refine splitL (fun e=>?_) (fun e=>?_)
  ·replace h:=ite_t e h
   clear e
   try cbv
   exact join_next (n,true) [0,4,5,12] [.ext 0,.ext 1] 224 ⟨by omega,h⟩ (by cbv)
  replace h:=ite_f (Int.not_lt.2 e) h
  clear e
  try cbv
  exact join_next (n,false) [0,4,5,12] [.ext 0,.ext 1] 224 ⟨by omega,h⟩ (by cbv)
 clear h
 rintro⟨m1,b5⟩ ⟨hm1,h⟩
 replace hm1:m1≤n:=hm1
 obtain _ | m1:=m1
 ·replace h:L105x1_1 0 z3 l4 b5=some r:=h
  rw[L105x1_1]at h
  cases h
 replace h:L105x1_1 (m1+1) z3 l4 b5=some r:=h
 rw[L105x1_1]at h
 try cbv
 cases b5
 rotate_left
 ·replace h:=ite_t rfl h
  try cbv
  refine seq_go ?_
  try cbv
  obtain rfl:=Option.some.inj h
  refine⟨_,_,_,hQ,[.treeS 4 true 6],?_⟩
  try cbv
  exact⟨[.loc 256],rfl,rfl,⟨rfl,⟨rfl,trivial⟩⟩,⟨rfl,trivial⟩,trivial⟩
 replace h:=ite_f Bool.false_ne_true h
 try cbv
 refine seq_go ?_
 try cbv
 refine op_pl ?_
 try cbv
 replace h:=needF_inv h
 obtain⟨hn,h⟩:=h
 refine⟨(M.lock_iff _).2 hn,?_⟩
 clear hn
 try cbv
 refine⟨[],?_⟩
 try cbv
 replace h:=getN_inv h
 obtain⟨x6,hx,h⟩:=h
 replace h:=ds_t171_inv h
 obtain⟨z7,z8,l9,rfl,h⟩:=h
 refine⟨_,hx,?_⟩
 clear hx
 try cbv
 refine⟨false,?_⟩
 try cbv
 refine seq_go ?_
 try cbv
 refine seq_go ?_
 try cbv
 refine op_must [] ?_
 try cbv
 first | refine⟨(rfl:(_:Nat)=_),?_⟩ | refine⟨True.intro,?_⟩ | skip
 try cbv
 replace h:=needF_inv h
 obtain⟨hs,h⟩:=h
 replace h:=letL_inv h
 obtain⟨l10,hl10,h⟩:=h
 replace h:=letL_inv h
 obtain⟨l11,hl11,h⟩:=h
 first | refine⟨⟨rfl,hs⟩,l10,l11,hl10,hl11,?_⟩ | refine⟨hs,l10,l11,hl10,hl11,?_⟩ | refine⟨⟨trivial,hs⟩,l10,l11,hl10,hl11,?_⟩
 clear hs hl10 hl11
 try cbv
 refine op_pl ?_
 try cbv
 refine⟨true,?_⟩
 try cbv
 refine⟨true,?_⟩
 try cbv
 refine⟨[],?_⟩
 try cbv
 replace h:=appF_inv h
 obtain⟨l12,hb,hz,h⟩:=h
 refine⟨(M.lock_iff _).2 hb,l12,hz,?_⟩
 clear hb hz
 try cbv
 refine seq_go ?_
 try cbv
 replace h:=letF_inv h
 obtain⟨z13,hz,h⟩:=h
 refine⟨z13,hz,?_⟩
 clear hz
 try cbv
 refine op_must [] ?_
 try cbv
 first | refine⟨(rfl:(_:Nat)=_),?_⟩ | refine⟨True.intro,?_⟩ | skip
 try cbv
 replace h:=needF_inv h
 obtain⟨hs,h⟩:=h
 first | refine⟨⟨hs,rfl⟩,?_⟩ | refine⟨⟨hs,trivial⟩,?_⟩ | refine⟨hs,?_⟩
 clear hs
 try cbv
 refine op_pl ?_
 try cbv
 refine⟨true,?_⟩
 try cbv
 refine⟨true,?_⟩
 try cbv
 refine⟨[],?_⟩
 try cbv
 replace h:=appF_inv h
 obtain⟨l14,hb,hz,h⟩:=h
 refine⟨(M.lock_iff _).2 hb,l14,hz,?_⟩
 clear hb hz
 try cbv
 refine seq_go ?_
 try cbv
 refine seq_go ?_
 try cbv
 obtain rfl:=Option.some.inj h
 refine finQ_go hQ ?_
 try cbv
 exact⟨[.loc 450,.loc 1088],rfl,rfl,⟨rfl,trivial⟩,⟨rfl,⟨rfl,trivial⟩⟩,trivial⟩
mutual
def L44x1_6:Nat→(List PRow)→(List D)→Int→(List D)→Option (((Bool×(List PRow)×List D) ⊕ (Bool×(List PRow)×List D)))
 | 0,_,_,_,_=>none
 | n+1,pm28,l37,z38,l39=>
  lenF l39 fun z40=>(if z38<z40 then L44x1_7 n pm28 l37 z38 l39 true else L44x1_7 n pm28 l37 z38 l39 false)
def L44x1_7:Nat→(List PRow)→(List D)→Int→(List D)→Bool→Option (((Bool×(List PRow)×List D) ⊕ (Bool×(List PRow)×List D)))
 | 0,_,_,_,_,_=>none
 | n+1,pm28,l37,z38,l39,b41=>
  (if b41=true then needF (0≤z38∧z38.toNat<l39.length) (getN l39 (z38.toNat) fun x42=>ds_t49 x42 fun z43 z44 s45 l46 z47 l48=>letF (IntKind.wrap .i64 (z38+1)) fun z49=>setF l39 (z38.toNat) (.agg [.int .u8 99,.int .i64 z44,.str s45,.list true 6 l46,.int .i64 z47,.list false 1 l48]) fun l50=>L44x1_6 n pm28 l37 z49 l50)else some (.inl (true,pm28,l37)))
end
def L44x1_5:Nat→(List PRow)→(List D)→Bool→(List D)→Option (((Bool×(List PRow)×List D) ⊕ (Bool×(List PRow)×List D)))
 | 0,_,_,_,_=>none
 | n+1,pm28,l29,b36,l37=>
  (if b36=true then some (.inl (false,pm28,l37))else L44x1_6 n pm28 l37 (0:Int) l29)
def L44x1_11:Nat→Int→(List D)→(List PRow)→(List D)→Option (((Bool×(List PRow)×List D) ⊕ (Bool×(List PRow)×List D)))
 | 0,_,_,_,_=>none
 | n+1,z2,l11,pm81,l82=>
  bS (F105x1 n z2 l11) (fun l83=>bO1 (F48 n l82 ([]:List D)) fun b84=>some (.inl (b84,pm81,l83))) (fun p89=>bO2 (some p89) fun l85 l86=>bO1 (F48 n l82 l85) fun b87=>some (.inr (b87,pm81,l86)))
def L44x1_10:Nat→Int→(List PRow)→(List D)→Bool→Option (((Bool×(List PRow)×List D) ⊕ (Bool×(List PRow)×List D)))
 | 0,_,_,_,_=>none
 | n+1,z2,pm10,l11,b75=>
  (if b75=true then bS (F42 n z2 pm10) (fun p79=>bO2 (some p79) fun pm76 l77=>L44x1_11 n z2 l11 pm76 l77) (fun pm78=>L44x1_11 n z2 l11 pm78 ([]:List D))else some (.inl (true,pm10,l11)))
def L44x1_9:Nat→Int→Int→(List PRow)→(List D)→Bool→Option (((Bool×(List PRow)×List D) ⊕ (Bool×(List PRow)×List D)))
 | 0,_,_,_,_,_=>none
 | n+1,z1,z2,pm10,l11,b52=>
  (if b52=true then bO8 (F38 n z2 pm10) fun z53 z54 s55 l56 z57 l58 b59 pm60=>bS (F104x1 n z2 l11) (fun l61=>letB (b59==false) fun b71=>(if b71=true then bO1 (F34 n z53 z54 s55 l56 z57 l58 (0:Int) (0:Int) ByteArray.empty ([]:List D) (0:Int) ([]:List D)) fun b72=>some (.inl (b72,pm60,l61))else some (.inl (false,pm60,l61)))) (fun p70=>bO7 (some p70) fun z62 z63 s64 l65 z66 l67 l68=>letB (b59==true) fun b73=>(if b73=true then bO1 (F34 n z53 z54 s55 l56 z57 l58 z62 z63 s64 l65 z66 l67) fun b74=>some (.inl (b74,pm60,l68))else some (.inl (false,pm60,l68))))else (if z1=(6:Int)then L44x1_10 n z2 pm10 l11 true else L44x1_10 n z2 pm10 l11 false))
def L44x1_8:Nat→Int→Int→(List PRow)→(List D)→Bool→Option (((Bool×(List PRow)×List D) ⊕ (Bool×(List PRow)×List D)))
 | 0,_,_,_,_,_=>none
 | n+1,z1,z2,pm10,l11,b51=>
  (if b51=true then L44x1_9 n z1 z2 pm10 l11 true else (if z1=(5:Int)then L44x1_9 n z1 z2 pm10 l11 true else L44x1_9 n z1 z2 pm10 l11 false))
def L44x1_4:Nat→Int→Int→Int→Int→ByteArray→(List D)→Int→(List D)→(List PRow)→(List D)→Int→Int→ByteArray→Int→(List D)→(List D)→Bool→Option (((Bool×(List PRow)×List D) ⊕ (Bool×(List PRow)×List D)))
 | 0,_,_,_,_,_,_,_,_,_,_,_,_,_,_,_,_,_=>none
 | n+1,z1,z2,z4,z5,s6,l7,z8,l9,pm10,l11,z12,z13,s14,z15,l16,l17,b26=>
  (if b26=true then bO4 (F39 n z2 z12 z13 s14 z15 pm10 l16 l17) fun b27 pm28 l29 l30=>bO2 (F103x1 n z2 z4 z5 s6 l7 z8 l9 l11) fun b31 l32=>letB (!(b27==b31)) fun b33=>(if b33=true then L44x1_5 n pm28 l29 true l32 else bO1 (F34 n z12 z13 s14 l29 z15 l30 z4 z5 s6 l7 z8 l9) fun b34=>letB (!b34) fun b35=>L44x1_5 n pm28 l29 b35 l32)else (if z1=(4:Int)then L44x1_8 n z1 z2 pm10 l11 true else L44x1_8 n z1 z2 pm10 l11 false))
def L44x1_3:Nat→Int→Int→Int→Int→ByteArray→(List D)→Int→(List D)→(List PRow)→(List D)→Int→Int→ByteArray→Int→(List D)→(List D)→Bool→Option (((Bool×(List PRow)×List D) ⊕ (Bool×(List PRow)×List D)))
 | 0,_,_,_,_,_,_,_,_,_,_,_,_,_,_,_,_,_=>none
 | n+1,z1,z2,z4,z5,s6,l7,z8,l9,pm10,l11,z12,z13,s14,z15,l16,l17,b25=>
  (if b25=true then L44x1_4 n z1 z2 z4 z5 s6 l7 z8 l9 pm10 l11 z12 z13 s14 z15 l16 l17 true else (if z1=(3:Int)then L44x1_4 n z1 z2 z4 z5 s6 l7 z8 l9 pm10 l11 z12 z13 s14 z15 l16 l17 true else L44x1_4 n z1 z2 z4 z5 s6 l7 z8 l9 pm10 l11 z12 z13 s14 z15 l16 l17 false))
def L44x1_2:Nat→Int→Int→Int→Int→ByteArray→(List D)→Int→(List D)→(List PRow)→(List D)→Int→Int→ByteArray→Int→(List D)→(List D)→Bool→Option (((Bool×(List PRow)×List D) ⊕ (Bool×(List PRow)×List D)))
 | 0,_,_,_,_,_,_,_,_,_,_,_,_,_,_,_,_,_=>none
 | n+1,z1,z2,z4,z5,s6,l7,z8,l9,pm10,l11,z12,z13,s14,z15,l16,l17,b24=>
  (if b24=true then L44x1_4 n z1 z2 z4 z5 s6 l7 z8 l9 pm10 l11 z12 z13 s14 z15 l16 l17 true else (if z1=(2:Int)then L44x1_3 n z1 z2 z4 z5 s6 l7 z8 l9 pm10 l11 z12 z13 s14 z15 l16 l17 true else L44x1_3 n z1 z2 z4 z5 s6 l7 z8 l9 pm10 l11 z12 z13 s14 z15 l16 l17 false))
def L44x1_1:Nat→Int→Int→Int→Int→Int→ByteArray→(List D)→Int→(List D)→(List PRow)→(List D)→Int→Int→ByteArray→Int→(List D)→(List D)→Bool→Option (((Bool×(List PRow)×List D) ⊕ (Bool×(List PRow)×List D)))
 | 0,_,_,_,_,_,_,_,_,_,_,_,_,_,_,_,_,_,_=>none
 | n+1,z1,z2,z3,z4,z5,s6,l7,z8,l9,pm10,l11,z12,z13,s14,z15,l16,l17,b18=>
  (if b18=true then bO1 (F37 n z2 z3 pm10) fun pm19=>bS (F102x1 n z2 z3 l11) (fun l20=>some (.inr (true,pm19,l20))) (fun l21=>some (.inl (true,pm19,l21)))else (if z1=(1:Int)then L44x1_2 n z1 z2 z4 z5 s6 l7 z8 l9 pm10 l11 z12 z13 s14 z15 l16 l17 true else L44x1_2 n z1 z2 z4 z5 s6 l7 z8 l9 pm10 l11 z12 z13 s14 z15 l16 l17 false))
def F44x1 (n:Nat) (z1:Int) (z2:Int) (z3:Int) (z4:Int) (z5:Int) (s6:ByteArray) (l7:List D) (z8:Int) (l9:List D) (pm10:List PRow) (l11:List D):Option (((Bool×(List PRow)×List D) ⊕ (Bool×(List PRow)×List D))):=
 bO6 (F29 n z4 z5 s6 l7 z8 l9) fun z12 z13 s14 z15 l16 l17=>(if z1=(0:Int)then L44x1_1 n z1 z2 z3 z4 z5 s6 l7 z8 l9 pm10 l11 z12 z13 s14 z15 l16 l17 true else L44x1_1 n z1 z2 z3 z4 z5 s6 l7 z8 l9 pm10 l11 z12 z13 s14 z15 l16 l17 false)
theorem T44x1 (n:Nat):∀⦃z1:Int⦄ ⦃z2:Int⦄ ⦃z3:Int⦄ ⦃z4:Int⦄ ⦃z5:Int⦄ ⦃s6:ByteArray⦄ ⦃l7:List D⦄ ⦃z8:Int⦄ ⦃l9:List D⦄ ⦃pm10:List PRow⦄ ⦃l11:List D⦄ ⦃r:((Bool×(List PRow)×List D) ⊕ (Bool×(List PRow)×List D))⦄,F44x1 n z1 z2 z3 z4 z5 s6 l7 z8 l9 pm10 l11=some r→∀Q:AV→List AObj→List AObj→Prop,(match r with | .inl (r1,r2,r3)=>Q (.v (.d (.bool r1))) [.cells [.ow (.ext 1)],.pmap 3 6 8 r2 none,.cells [.ow (.ext 3)],.tree .row true 3 r3 none] [] | .inr (r1,r2,r3)=>Q (.v (.d (.bool r1))) [.cells [.ow (.ext 1)],.pmap 3 6 8 r2 none,.cells [.ow (.loc 0)],.gone] [.tree .row true 3 r3 none])→
    TripK Try.prog inv 44 [.c (.ptr (.ext 0) 0),.c (.ptr (.ext 2) 0),.d (.agg [.int .i64 z1,.int .i64 z2,.int .i64 z3,.int .u8 z4,.int .i64 z5,.str s6,.list true 6 l7,.int .i64 z8,.list false 1 l9])] [.cells [.ow (.ext 1)],.pmap 3 6 8 pm10 none,.cells [.ow (.ext 3)],.tree .row true 3 l11 none] Q:=by
 intro z1 z2 z3 z4 z5 s6 l7 z8 l9 pm10 l11 r h Q hQ
 unfold F44x1 at h
 refine TripK.of tab_ok tab_one fol Try.func44 rfl (by kernel_rfl) rfl rfl rfl (fun M hM hI=>?_)
 try cbv
 refine seq_go ?_
 try cbv
 refine seq_go ?_
 try cbv
 replace h:=bO6_inv h
 obtain⟨z12,z13,s14,z15,l16,l17,hr,h⟩:=h
 refine call_go rfl rfl ?_
 try cbv
 refine call_with hM hI [] (T29 _ hr) rfl (by simp) trivial trivial (by simp) ?_
 clear hr
 try cbv
 refine seq_go ?_
 try cbv
 refine seq_go ?_
 try cbv
 refine seq_join (T:=Nat×Bool) (fun t=>⟨[(0,.v (.c (.ptr (.ext 0) 0))),(1,.v (.c (.ptr (.ext 2) 0))),(5,.v (.c (.ptr (.loc 0) 0))),(6,.v (.d (.bool false))),(7,.v (.c (.ptr (.loc 160) 0))),(19,.v (.d (.int .i64 z1))),(20,.v (.d (.bool t.2)))],[(.ext 0,.cells [.ow (.ext 1)]),(.ext 1,.pmap 3 6 8 pm10 none),(.ext 2,.cells [.ow (.ext 3)]),(.ext 3,.tree .row true 3 l11 none),(.loc 0,.cells [.d (.int .i64 z1),.d (.int .i64 z2),.d (.int .i64 z3),.d (.int .u8 z4),.d (.int .i64 z5),.d (.str s6),.d (.list true 6 l7),.d (.int .i64 z8),.d (.list false 1 l9)]),(.loc 160,.cells [.d (.int .u8 z12),.d (.int .i64 z13),.d (.str s14),.ow (.loc 128),.d (.int .i64 z15),.ow (.loc 129)]),(.loc 128,.tree .row true 6 l16 none),(.loc 129,.tree .row false 1 l17 none)],352⟩) (fun t=>t.1≤n∧L44x1_1 t.1 z1 z2 z3 z4 z5 s6 l7 z8 l9 pm10 l11 z12 z13 s14 z15 l16 l17 t.2=some r) ?_ ?_
 ·try cbv
  refine splitI (fun e=>?_) (fun e=>?_)
  ·replace h:=ite_t e h
   clear e
   try cbv
   exact join_next (n,true) [0,1,5,6,7,19,20] [.ext 0,.ext 1,.ext 2,.ext 3,.loc 0,.loc 160,.loc 128,.loc 129] 352 ⟨by omega,h⟩ (by cbv)
  replace h:=ite_f e h
  clear e
  try cbv
  exact join_next (n,false) [0,1,5,6,7,19,20] [.ext 0,.ext 1,.ext 2,.ext 3,.loc 0,.loc 160,.loc 128,.loc 129] 352 ⟨by omega,h⟩ (by cbv)
 clear h
 rintro⟨m1,b18⟩ ⟨hm1,h⟩
 replace hm1:m1≤n:=hm1
 obtain _ | m1:=m1
 ·replace h:L44x1_1 0 z1 z2 z3 z4 z5 s6 l7 z8 l9 pm10 l11 z12 z13 s14 z15 l16 l17 b18=some r:=h
  rw[L44x1_1]at h
  cases h
 replace h:L44x1_1 (m1+1) z1 z2 z3 z4 z5 s6 l7 z8 l9 pm10 l11 z12 z13 s14 z15 l16 l17 b18=some r:=h
 rw[L44x1_1]at h
 try cbv
 cases b18
 rotate_left
 ·replace h:=ite_t rfl h
  try cbv
  refine seq_go ?_
  try cbv
  replace h:=bO1_inv h
  obtain⟨pm19,hr,h⟩:=h
  refine call_go rfl rfl ?_
  try cbv
  refine call_with hM hI [.ext 0,.ext 1] (T37 _ hr) rfl (by simp) ⟨rfl,⟨rfl,trivial⟩⟩ ⟨trivial,⟨trivial,trivial⟩⟩ (by simp) ?_
  clear hr
  try cbv
  replace h:=bS_inv h
  rcases h with⟨l20,hr,h⟩ | ⟨l21,hr,h⟩
  ·refine call_go rfl rfl ?_
   try cbv
   refine call_with hM hI [.ext 2,.ext 3] (T102x1 _ hr (fun r p n=>r= .t []∧p=[.cells [.ow (.loc 0)],.gone]∧n=[.tree .row true 3 l20 none]) ⟨rfl,rfl,rfl⟩:Trip _ _ _ _ _ (.t []) [.cells [.ow (.loc 0)],.gone] [.tree .row true 3 l20 none]) rfl (by simp) ⟨rfl,⟨rfl,trivial⟩⟩ ⟨trivial,⟨trivial,trivial⟩⟩ (by simp) ?_
   clear hr
   try cbv
   refine seq_go ?_
   try cbv
   obtain rfl:=Option.some.inj h
   refine finQ_go hQ ?_
   try cbv
   exact⟨[.loc 704],rfl,rfl,⟨rfl,⟨rfl,⟨rfl,trivial⟩⟩⟩,⟨rfl,trivial⟩,trivial⟩
  refine call_go rfl rfl ?_
  try cbv
  refine call_with hM hI [.ext 2,.ext 3] (T102x1 _ hr (fun r p n=>r= .t []∧p=[.cells [.ow (.ext 1)],.tree .row true 3 l21 none]∧n=[]) ⟨rfl,rfl,rfl⟩:Trip _ _ _ _ _ (.t []) [.cells [.ow (.ext 1)],.tree .row true 3 l21 none] []) rfl (by simp) ⟨rfl,⟨rfl,trivial⟩⟩ ⟨trivial,⟨trivial,trivial⟩⟩ (by simp) ?_
  clear hr
  try cbv
  refine seq_go ?_
  try cbv
  obtain rfl:=Option.some.inj h
  refine finQ_go hQ ?_
  try cbv
  exact⟨[],rfl,rfl,⟨rfl,⟨rfl,⟨rfl,⟨rfl,trivial⟩⟩⟩⟩,trivial,trivial⟩
 replace h:=ite_f Bool.false_ne_true h
 try cbv
 refine seq_join (T:=Nat×Bool) (fun t=>⟨[(0,.v (.c (.ptr (.ext 0) 0))),(1,.v (.c (.ptr (.ext 2) 0))),(5,.v (.c (.ptr (.loc 0) 0))),(6,.v (.d (.bool false))),(7,.v (.c (.ptr (.loc 160) 0))),(19,.v (.d (.int .i64 z1))),(34,.v (.d (.bool t.2)))],[(.ext 0,.cells [.ow (.ext 1)]),(.ext 1,.pmap 3 6 8 pm10 none),(.ext 2,.cells [.ow (.ext 3)]),(.ext 3,.tree .row true 3 l11 none),(.loc 0,.cells [.d (.int .i64 z1),.d (.int .i64 z2),.d (.int .i64 z3),.d (.int .u8 z4),.d (.int .i64 z5),.d (.str s6),.d (.list true 6 l7),.d (.int .i64 z8),.d (.list false 1 l9)]),(.loc 160,.cells [.d (.int .u8 z12),.d (.int .i64 z13),.d (.str s14),.ow (.loc 128),.d (.int .i64 z15),.ow (.loc 129)]),(.loc 128,.tree .row true 6 l16 none),(.loc 129,.tree .row false 1 l17 none)],544⟩) (fun t=>t.1≤m1∧L44x1_4 t.1 z1 z2 z4 z5 s6 l7 z8 l9 pm10 l11 z12 z13 s14 z15 l16 l17 t.2=some r) ?_ ?_
 ·try cbv
  refine seq_join (T:=Nat×Bool) (fun t=>⟨[(0,.v (.c (.ptr (.ext 0) 0))),(1,.v (.c (.ptr (.ext 2) 0))),(5,.v (.c (.ptr (.loc 0) 0))),(6,.v (.d (.bool false))),(7,.v (.c (.ptr (.loc 160) 0))),(19,.v (.d (.int .i64 z1))),(34,.v (.d (.bool t.2)))],[(.ext 0,.cells [.ow (.ext 1)]),(.ext 1,.pmap 3 6 8 pm10 none),(.ext 2,.cells [.ow (.ext 3)]),(.ext 3,.tree .row true 3 l11 none),(.loc 0,.cells [.d (.int .i64 z1),.d (.int .i64 z2),.d (.int .i64 z3),.d (.int .u8 z4),.d (.int .i64 z5),.d (.str s6),.d (.list true 6 l7),.d (.int .i64 z8),.d (.list false 1 l9)]),(.loc 160,.cells [.d (.int .u8 z12),.d (.int .i64 z13),.d (.str s14),.ow (.loc 128),.d (.int .i64 z15),.ow (.loc 129)]),(.loc 128,.tree .row true 6 l16 none),(.loc 129,.tree .row false 1 l17 none)],416⟩) (fun t=>t.1≤m1∧L44x1_2 t.1 z1 z2 z4 z5 s6 l7 z8 l9 pm10 l11 z12 z13 s14 z15 l16 l17 t.2=some r) ?_ ?_
  ·try cbv
   refine splitI (fun e=>?_) (fun e=>?_)
   ·replace h:=ite_t e h
    clear e
    try cbv
    exact join_next (m1,true) [0,1,5,6,7,19,34] [.ext 0,.ext 1,.ext 2,.ext 3,.loc 0,.loc 160,.loc 128,.loc 129] 416 ⟨by omega,h⟩ (by cbv)
   replace h:=ite_f e h
   clear e
   try cbv
   exact join_next (m1,false) [0,1,5,6,7,19,34] [.ext 0,.ext 1,.ext 2,.ext 3,.loc 0,.loc 160,.loc 128,.loc 129] 416 ⟨by omega,h⟩ (by cbv)
  clear h
  rintro⟨m2,b24⟩ ⟨hm2,h⟩
  replace hm2:m2≤m1:=hm2
  obtain _ | m2:=m2
  ·replace h:L44x1_2 0 z1 z2 z4 z5 s6 l7 z8 l9 pm10 l11 z12 z13 s14 z15 l16 l17 b24=some r:=h
   rw[L44x1_2]at h
   cases h
  replace h:L44x1_2 (m2+1) z1 z2 z4 z5 s6 l7 z8 l9 pm10 l11 z12 z13 s14 z15 l16 l17 b24=some r:=h
  rw[L44x1_2]at h
  try cbv
  cases b24
  rotate_left
  ·replace h:=ite_t rfl h
   try cbv
   exact join_next (m2,true) [0,1,5,6,7,19,34] [.ext 0,.ext 1,.ext 2,.ext 3,.loc 0,.loc 160,.loc 128,.loc 129] 544 ⟨by omega,h⟩ (by cbv)
  replace h:=ite_f Bool.false_ne_true h
  try cbv
  refine seq_join (T:=Nat×Bool) (fun t=>⟨[(0,.v (.c (.ptr (.ext 0) 0))),(1,.v (.c (.ptr (.ext 2) 0))),(5,.v (.c (.ptr (.loc 0) 0))),(6,.v (.d (.bool false))),(7,.v (.c (.ptr (.loc 160) 0))),(19,.v (.d (.int .i64 z1))),(34,.v (.d (.bool t.2)))],[(.ext 0,.cells [.ow (.ext 1)]),(.ext 1,.pmap 3 6 8 pm10 none),(.ext 2,.cells [.ow (.ext 3)]),(.ext 3,.tree .row true 3 l11 none),(.loc 0,.cells [.d (.int .i64 z1),.d (.int .i64 z2),.d (.int .i64 z3),.d (.int .u8 z4),.d (.int .i64 z5),.d (.str s6),.d (.list true 6 l7),.d (.int .i64 z8),.d (.list false 1 l9)]),(.loc 160,.cells [.d (.int .u8 z12),.d (.int .i64 z13),.d (.str s14),.ow (.loc 128),.d (.int .i64 z15),.ow (.loc 129)]),(.loc 128,.tree .row true 6 l16 none),(.loc 129,.tree .row false 1 l17 none)],480⟩) (fun t=>t.1≤m2∧L44x1_3 t.1 z1 z2 z4 z5 s6 l7 z8 l9 pm10 l11 z12 z13 s14 z15 l16 l17 t.2=some r) ?_ ?_
  ·try cbv
   refine splitI (fun e=>?_) (fun e=>?_)
   ·replace h:=ite_t e h
    clear e
    try cbv
    exact join_next (m2,true) [0,1,5,6,7,19,34] [.ext 0,.ext 1,.ext 2,.ext 3,.loc 0,.loc 160,.loc 128,.loc 129] 480 ⟨by omega,h⟩ (by cbv)
   replace h:=ite_f e h
   clear e
   try cbv
   exact join_next (m2,false) [0,1,5,6,7,19,34] [.ext 0,.ext 1,.ext 2,.ext 3,.loc 0,.loc 160,.loc 128,.loc 129] 480 ⟨by omega,h⟩ (by cbv)
  clear h
  rintro⟨m3,b25⟩ ⟨hm3,h⟩
  replace hm3:m3≤m2:=hm3
  obtain _ | m3:=m3
  ·replace h:L44x1_3 0 z1 z2 z4 z5 s6 l7 z8 l9 pm10 l11 z12 z13 s14 z15 l16 l17 b25=some r:=h
   rw[L44x1_3]at h
   cases h
  replace h:L44x1_3 (m3+1) z1 z2 z4 z5 s6 l7 z8 l9 pm10 l11 z12 z13 s14 z15 l16 l17 b25=some r:=h
  rw[L44x1_3]at h
  try cbv
  cases b25
  ·replace h:=ite_f Bool.false_ne_true h
   try cbv
   refine splitI (fun e=>?_) (fun e=>?_)
   ·replace h:=ite_t e h
    clear e
    try cbv
    exact join_next (m3,true) [0,1,5,6,7,19,34] [.ext 0,.ext 1,.ext 2,.ext 3,.loc 0,.loc 160,.loc 128,.loc 129] 544 ⟨by omega,h⟩ (by cbv)
   replace h:=ite_f e h
   clear e
   try cbv
   exact join_next (m3,false) [0,1,5,6,7,19,34] [.ext 0,.ext 1,.ext 2,.ext 3,.loc 0,.loc 160,.loc 128,.loc 129] 544 ⟨by omega,h⟩ (by cbv)
  replace h:=ite_t rfl h
  try cbv
  exact join_next (m3,true) [0,1,5,6,7,19,34] [.ext 0,.ext 1,.ext 2,.ext 3,.loc 0,.loc 160,.loc 128,.loc 129] 544 ⟨by omega,h⟩ (by cbv)
 clear h
 rintro⟨m4,b26⟩ ⟨hm4,h⟩
 replace hm4:m4≤m1:=hm4
 obtain _ | m4:=m4
 ·replace h:L44x1_4 0 z1 z2 z4 z5 s6 l7 z8 l9 pm10 l11 z12 z13 s14 z15 l16 l17 b26=some r:=h
  rw[L44x1_4]at h
  cases h
 replace h:L44x1_4 (m4+1) z1 z2 z4 z5 s6 l7 z8 l9 pm10 l11 z12 z13 s14 z15 l16 l17 b26=some r:=h
 rw[L44x1_4]at h
 try cbv
 cases b26
 rotate_left
 ·replace h:=ite_t rfl h
  try cbv
  refine seq_go ?_
  try cbv
  replace h:=bO4_inv h
  obtain⟨b27,pm28,l29,l30,hr,h⟩:=h
  refine call_go rfl rfl ?_
  try cbv
  refine call_with hM hI [.ext 0,.ext 1,.loc 128,.loc 129] (T39 _ hr) rfl (by simp) ⟨rfl,⟨rfl,⟨rfl,⟨rfl,trivial⟩⟩⟩⟩ ⟨trivial,⟨trivial,⟨trivial,⟨trivial,trivial⟩⟩⟩⟩ (by simp) ?_
  clear hr
  try cbv
  refine seq_go ?_
  try cbv
  refine seq_join (T:=Nat×Bool×List D) (fun t=>⟨[(0,.v (.c (.ptr (.ext 0) 0))),(1,.v (.c (.ptr (.ext 2) 0))),(5,.v (.c (.ptr (.loc 0) 0))),(6,.v (.d (.bool false))),(7,.v (.c (.ptr (.loc 160) 0))),(19,.v (.d (.int .i64 z1))),(57,.v (.d (.bool t.2.1)))],[(.ext 0,.cells [.ow (.ext 1)]),(.ext 1,.pmap 3 6 8 pm28 none),(.ext 2,.cells [.ow (.ext 3)]),(.ext 3,.tree .row true 3 t.2.2 none),(.loc 0,.cells [.d (.int .i64 z1),.d (.int .i64 z2),.d (.int .i64 z3),.d (.int .u8 z4),.d (.int .i64 z5),.d (.str s6),.d (.list true 6 l7),.d (.int .i64 z8),.d (.list false 1 l9)]),(.loc 160,.cells [.d (.int .u8 z12),.d (.int .i64 z13),.d (.str s14),.ow (.loc 128),.d (.int .i64 z15),.ow (.loc 129)]),(.loc 128,.tree .row true 6 l29 none),(.loc 129,.tree .row false 1 l30 none)],1216⟩) (fun t=>t.1≤m4∧L44x1_5 t.1 pm28 l29 t.2.1 t.2.2=some r) ?_ ?_
  ·try cbv
   replace h:=bO2_inv h
   obtain⟨b31,l32,hr,h⟩:=h
   refine call_go rfl rfl ?_
   try cbv
   refine call_with hM hI [.ext 2,.ext 3] (T103x1 _ hr) rfl (by simp) ⟨rfl,⟨rfl,trivial⟩⟩ ⟨trivial,⟨trivial,trivial⟩⟩ (by simp) ?_
   clear hr
   try cbv
   replace h:=letB_inv h
   obtain⟨b33,hz,h⟩:=h
   refine⟨b33,eqv_ne hz,?_⟩
   clear hz
   try cbv
   cases b33
   ·replace h:=ite_f Bool.false_ne_true h
    try cbv
    replace h:=bO1_inv h
    obtain⟨b34,hr,h⟩:=h
    refine call_go rfl rfl ?_
    try cbv
    refine call_with hM hI [.loc 128,.loc 129] (Trip.lend (targs':=[.agg [.d (.int .u8 z12),.d (.int .i64 z13),.d (.str s14),.ow (.ext 0),.d (.int .i64 z15),.ow (.ext 1)],.d (.agg [.int .u8 z4,.int .i64 z5,.str s6,.list true 6 l7,.int .i64 z8,.list false 1 l9])]) (T34 _ hr) [.tree .row true 6 l29 none,.tree .row false 1 l30 none] rfl rfl rfl rfl rfl rfl) rfl (by simp) ⟨rfl,⟨rfl,trivial⟩⟩ ⟨trivial,⟨trivial,trivial⟩⟩ (by simp) ?_
    clear hr
    try cbv
    replace h:=letB_inv h
    obtain⟨b35,hz,h⟩:=h
    refine⟨b35,not_eq' hz,?_⟩
    clear hz
    try cbv
    exact join_next (m4,(b35,l32)) [0,1,5,6,7,19,57] [.ext 0,.ext 1,.ext 2,.ext 3,.loc 0,.loc 160,.loc 128,.loc 129] 1216 ⟨by omega,h⟩ (by cbv)
   replace h:=ite_t rfl h
   try cbv
   exact join_next (m4,(true,l32)) [0,1,5,6,7,19,57] [.ext 0,.ext 1,.ext 2,.ext 3,.loc 0,.loc 160,.loc 128,.loc 129] 1216 ⟨by omega,h⟩ (by cbv)
  clear h
  rintro⟨m5,b36,l37⟩ ⟨hm5,h⟩
  replace hm5:m5≤m4:=hm5
  obtain _ | m5:=m5
  ·replace h:L44x1_5 0 pm28 l29 b36 l37=some r:=h
   rw[L44x1_5]at h
   cases h
  replace h:L44x1_5 (m5+1) pm28 l29 b36 l37=some r:=h
  rw[L44x1_5]at h
  try cbv
  cases b36
  rotate_left
  ·replace h:=ite_t rfl h
   try cbv
   refine seq_go ?_
   try cbv
   obtain rfl:=Option.some.inj h
   refine finQ_go hQ ?_
   try cbv
   exact⟨[],rfl,rfl,⟨rfl,⟨rfl,⟨rfl,⟨rfl,trivial⟩⟩⟩⟩,trivial,trivial⟩
  replace h:=ite_f Bool.false_ne_true h
  try cbv
  refine seq_go ?_
  try cbv
  refine loop_invG (T:=Nat×Int×List D) [] [] [0,1,5,6,7,9,19] [.ext 0,.ext 1,.ext 2,.ext 3,.loc 0,.loc 160,.loc 128,.loc 129] 1248 (fun t=>⟨[(0,.v (.c (.ptr (.ext 0) 0))),(1,.v (.c (.ptr (.ext 2) 0))),(5,.v (.c (.ptr (.loc 0) 0))),(6,.v (.d (.bool false))),(7,.v (.c (.ptr (.loc 160) 0))),(9,.v (.d (.int .i64 t.2.1))),(19,.v (.d (.int .i64 z1)))],[(.ext 0,.cells [.ow (.ext 1)]),(.ext 1,.pmap 3 6 8 pm28 none),(.ext 2,.cells [.ow (.ext 3)]),(.ext 3,.tree .row true 3 l37 none),(.loc 0,.cells [.d (.int .i64 z1),.d (.int .i64 z2),.d (.int .i64 z3),.d (.int .u8 z4),.d (.int .i64 z5),.d (.str s6),.d (.list true 6 l7),.d (.int .i64 z8),.d (.list false 1 l9)]),(.loc 160,.cells [.d (.int .u8 z12),.d (.int .i64 z13),.d (.str s14),.ow (.loc 128),.d (.int .i64 z15),.ow (.loc 129)]),(.loc 128,.tree .row true 6 t.2.2 none),(.loc 129,.tree .row false 1 l30 none)],1248⟩)
    (fun t=>t.1≤m5∧L44x1_6 t.1 pm28 l37 t.2.1 t.2.2=some r) (fun t=>t.1) (m5,((0:Int),l29)) ⟨Nat.le_refl _,h⟩ (by cbv) ?_
  clear h
  rintro⟨m6,z38,l39⟩ ⟨hm6,h⟩
  replace hm6:m6≤m5:=hm6
  obtain _ | m6:=m6
  ·replace h:L44x1_6 0 pm28 l37 z38 l39=some r:=h
   rw[L44x1_6]at h
   cases h
  replace h:L44x1_6 (m6+1) pm28 l37 z38 l39=some r:=h
  rw[L44x1_6]at h
  try cbv
  refine seq_go ?_
  try cbv
  refine seq_join (T:=Nat×Bool) (fun t=>⟨[(0,.v (.c (.ptr (.ext 0) 0))),(1,.v (.c (.ptr (.ext 2) 0))),(5,.v (.c (.ptr (.loc 0) 0))),(6,.v (.d (.bool false))),(7,.v (.c (.ptr (.loc 160) 0))),(9,.v (.d (.int .i64 z38))),(19,.v (.d (.int .i64 z1))),(62,.v (.d (.bool t.2)))],[(.ext 0,.cells [.ow (.ext 1)]),(.ext 1,.pmap 3 6 8 pm28 none),(.ext 2,.cells [.ow (.ext 3)]),(.ext 3,.tree .row true 3 l37 none),(.loc 0,.cells [.d (.int .i64 z1),.d (.int .i64 z2),.d (.int .i64 z3),.d (.int .u8 z4),.d (.int .i64 z5),.d (.str s6),.d (.list true 6 l7),.d (.int .i64 z8),.d (.list false 1 l9)]),(.loc 160,.cells [.d (.int .u8 z12),.d (.int .i64 z13),.d (.str s14),.ow (.loc 128),.d (.int .i64 z15),.ow (.loc 129)]),(.loc 128,.tree .row true 6 l39 none),(.loc 129,.tree .row false 1 l30 none)],1408⟩) (fun t=>t.1≤m6∧L44x1_7 t.1 pm28 l37 z38 l39 t.2=some r) ?_ ?_
  ·try cbv
   replace h:=lenF_inv M h
   obtain⟨z40,hz,h⟩:=h
   refine⟨false,?_⟩
   try cbv
   refine⟨z40,hz,?_⟩
   clear hz
   try cbv
   refine splitL (fun e=>?_) (fun e=>?_)
   ·replace h:=ite_t e h
    clear e
    try cbv
    exact join_next (m6,true) [0,1,5,6,7,9,19,62] [.ext 0,.ext 1,.ext 2,.ext 3,.loc 0,.loc 160,.loc 128,.loc 129] 1408 ⟨by omega,h⟩ (by cbv)
   replace h:=ite_f (Int.not_lt.2 e) h
   clear e
   try cbv
   exact join_next (m6,false) [0,1,5,6,7,9,19,62] [.ext 0,.ext 1,.ext 2,.ext 3,.loc 0,.loc 160,.loc 128,.loc 129] 1408 ⟨by omega,h⟩ (by cbv)
  clear h
  rintro⟨m7,b41⟩ ⟨hm7,h⟩
  replace hm7:m7≤m6:=hm7
  obtain _ | m7:=m7
  ·replace h:L44x1_7 0 pm28 l37 z38 l39 b41=some r:=h
   rw[L44x1_7]at h
   cases h
  replace h:L44x1_7 (m7+1) pm28 l37 z38 l39 b41=some r:=h
  rw[L44x1_7]at h
  try cbv
  cases b41
  ·replace h:=ite_f Bool.false_ne_true h
   try cbv
   refine seq_go ?_
   try cbv
   obtain rfl:=Option.some.inj h
   refine finQ_go hQ ?_
   try cbv
   exact⟨[],rfl,rfl,⟨rfl,⟨rfl,⟨rfl,⟨rfl,trivial⟩⟩⟩⟩,trivial,trivial⟩
  replace h:=ite_t rfl h
  try cbv
  refine seq_go ?_
  try cbv
  refine op_pl ?_
  try cbv
  replace h:=needF_inv h
  obtain⟨hn,h⟩:=h
  refine⟨(M.lock_iff _).2 hn,?_⟩
  clear hn
  try cbv
  refine⟨[],?_⟩
  try cbv
  replace h:=getN_inv h
  obtain⟨x42,hx,h⟩:=h
  replace h:=ds_t49_inv h
  obtain⟨z43,z44,s45,l46,z47,l48,rfl,h⟩:=h
  refine⟨_,hx,?_⟩
  clear hx
  try cbv
  replace h:=letF_inv h
  obtain⟨z49,hz,h⟩:=h
  refine⟨z49,hz,?_⟩
  clear hz
  try cbv
  replace h:=setF_inv h
  obtain⟨l50,hl50,h⟩:=h
  refine loop_nextG (m7,(z49,l50)) [.close (.loc 128)] [] [0,1,5,6,7,9,19] [.ext 0,.ext 1,.ext 2,.ext 3,.loc 0,.loc 160,.loc 128,.loc 129] 1248 ⟨by omega,h⟩ (Nat.lt_succ_of_le (by omega)) ?_
  try cbv
  refine⟨l50,hl50,?_⟩
  clear hl50
  try cbv
  first | done | exact rfl | cbv
 replace h:=ite_f Bool.false_ne_true h
 try cbv
 refine seq_join (T:=Nat×Bool) (fun t=>⟨[(0,.v (.c (.ptr (.ext 0) 0))),(1,.v (.c (.ptr (.ext 2) 0))),(5,.v (.c (.ptr (.loc 0) 0))),(6,.v (.d (.bool false))),(19,.v (.d (.int .i64 z1))),(70,.v (.d (.bool t.2)))],[(.ext 0,.cells [.ow (.ext 1)]),(.ext 1,.pmap 3 6 8 pm10 none),(.ext 2,.cells [.ow (.ext 3)]),(.ext 3,.tree .row true 3 l11 none),(.loc 0,.cells [.d (.int .i64 z1),.d (.int .i64 z2),.d (.int .i64 z3),.d (.int .u8 z4),.d (.int .i64 z5),.d (.str s6),.d (.list true 6 l7),.d (.int .i64 z8),.d (.list false 1 l9)])],672⟩) (fun t=>t.1≤m4∧L44x1_9 t.1 z1 z2 pm10 l11 t.2=some r) ?_ ?_
 ·try cbv
  refine seq_join (T:=Nat×Bool) (fun t=>⟨[(0,.v (.c (.ptr (.ext 0) 0))),(1,.v (.c (.ptr (.ext 2) 0))),(5,.v (.c (.ptr (.loc 0) 0))),(6,.v (.d (.bool false))),(19,.v (.d (.int .i64 z1))),(70,.v (.d (.bool t.2)))],[(.ext 0,.cells [.ow (.ext 1)]),(.ext 1,.pmap 3 6 8 pm10 none),(.ext 2,.cells [.ow (.ext 3)]),(.ext 3,.tree .row true 3 l11 none),(.loc 0,.cells [.d (.int .i64 z1),.d (.int .i64 z2),.d (.int .i64 z3),.d (.int .u8 z4),.d (.int .i64 z5),.d (.str s6),.d (.list true 6 l7),.d (.int .i64 z8),.d (.list false 1 l9)])],608⟩) (fun t=>t.1≤m4∧L44x1_8 t.1 z1 z2 pm10 l11 t.2=some r) ?_ ?_
  ·try cbv
   refine splitI (fun e=>?_) (fun e=>?_)
   ·replace h:=ite_t e h
    clear e
    try cbv
    exact join_next (m4,true) [0,1,5,6,19,70] [.ext 0,.ext 1,.ext 2,.ext 3,.loc 0] 608 ⟨by omega,h⟩ (by cbv)
   replace h:=ite_f e h
   clear e
   try cbv
   exact join_next (m4,false) [0,1,5,6,19,70] [.ext 0,.ext 1,.ext 2,.ext 3,.loc 0] 608 ⟨by omega,h⟩ (by cbv)
  clear h
  rintro⟨m8,b51⟩ ⟨hm8,h⟩
  replace hm8:m8≤m4:=hm8
  obtain _ | m8:=m8
  ·replace h:L44x1_8 0 z1 z2 pm10 l11 b51=some r:=h
   rw[L44x1_8]at h
   cases h
  replace h:L44x1_8 (m8+1) z1 z2 pm10 l11 b51=some r:=h
  rw[L44x1_8]at h
  try cbv
  cases b51
  ·replace h:=ite_f Bool.false_ne_true h
   try cbv
   refine splitI (fun e=>?_) (fun e=>?_)
   ·replace h:=ite_t e h
    clear e
    try cbv
    exact join_next (m8,true) [0,1,5,6,19,70] [.ext 0,.ext 1,.ext 2,.ext 3,.loc 0] 672 ⟨by omega,h⟩ (by cbv)
   replace h:=ite_f e h
   clear e
   try cbv
   exact join_next (m8,false) [0,1,5,6,19,70] [.ext 0,.ext 1,.ext 2,.ext 3,.loc 0] 672 ⟨by omega,h⟩ (by cbv)
  replace h:=ite_t rfl h
  try cbv
  exact join_next (m8,true) [0,1,5,6,19,70] [.ext 0,.ext 1,.ext 2,.ext 3,.loc 0] 672 ⟨by omega,h⟩ (by cbv)
 clear h
 rintro⟨m9,b52⟩ ⟨hm9,h⟩
 replace hm9:m9≤m4:=hm9
 obtain _ | m9:=m9
 ·replace h:L44x1_9 0 z1 z2 pm10 l11 b52=some r:=h
  rw[L44x1_9]at h
  cases h
 replace h:L44x1_9 (m9+1) z1 z2 pm10 l11 b52=some r:=h
 rw[L44x1_9]at h
 try cbv
 cases b52
 rotate_left
 ·replace h:=ite_t rfl h
  try cbv
  refine seq_go ?_
  try cbv
  replace h:=bO8_inv h
  obtain⟨z53,z54,s55,l56,z57,l58,b59,pm60,hr,h⟩:=h
  refine call_go rfl rfl ?_
  try cbv
  refine call_with hM hI [.ext 0,.ext 1] (T38 _ hr) rfl (by simp) ⟨rfl,⟨rfl,trivial⟩⟩ ⟨trivial,⟨trivial,trivial⟩⟩ (by simp) ?_
  clear hr
  try cbv
  refine seq_go ?_
  try cbv
  replace h:=bS_inv h
  rcases h with⟨l61,hr,h⟩ | ⟨p70,hr,h⟩
  ·refine call_go rfl rfl ?_
   try cbv
   refine call_with hM hI [.ext 2,.ext 3] (T104x1 _ hr (fun r p n=>r= .t [.agg [.d (.int .u8 0),.d (.int .i64 0),.d (.str ByteArray.empty),.ow (.loc 0),.d (.int .i64 0),.ow (.loc 1)],.d (.bool false)]∧p=[.cells [.ow (.ext 1)],.tree .row true 3 l61 none]∧n=[.tree .row true 6 [] none,.tree .row false 1 [] none]) ⟨rfl,rfl,rfl⟩:Trip _ _ _ _ _ (.t [.agg [.d (.int .u8 0),.d (.int .i64 0),.d (.str ByteArray.empty),.ow (.loc 0),.d (.int .i64 0),.ow (.loc 1)],.d (.bool false)]) [.cells [.ow (.ext 1)],.tree .row true 3 l61 none] [.tree .row true 6 [] none,.tree .row false 1 [] none]) rfl (by simp) ⟨rfl,⟨rfl,trivial⟩⟩ ⟨trivial,⟨trivial,trivial⟩⟩ (by simp) ?_
   clear hr
   try cbv
   refine seq_go ?_
   try cbv
   replace h:=letB_inv h
   obtain⟨b71,hz,h⟩:=h
   refine⟨b71,eqv_eq hz,?_⟩
   clear hz
   try cbv
   cases b71
   ·replace h:=ite_f Bool.false_ne_true h
    try cbv
    obtain rfl:=Option.some.inj h
    refine finQ_go hQ ?_
    try cbv
    exact⟨[],rfl,rfl,⟨rfl,⟨rfl,⟨rfl,⟨rfl,trivial⟩⟩⟩⟩,trivial,trivial⟩
   replace h:=ite_t rfl h
   try cbv
   replace h:=bO1_inv h
   obtain⟨b72,hr,h⟩:=h
   refine call_go rfl rfl ?_
   try cbv
   refine call_with hM hI [.loc 1088,.loc 1089] (Trip.lend (targs':=[.d (.agg [.int .u8 z53,.int .i64 z54,.str s55,.list true 6 l56,.int .i64 z57,.list false 1 l58]),.agg [.d (.int .u8 0),.d (.int .i64 0),.d (.str ByteArray.empty),.ow (.ext 0),.d (.int .i64 0),.ow (.ext 1)]]) (T34 _ hr) [.tree .row true 6 [] none,.tree .row false 1 [] none] rfl rfl rfl rfl rfl rfl) rfl (by simp) ⟨rfl,⟨rfl,trivial⟩⟩ ⟨trivial,⟨trivial,trivial⟩⟩ (by simp) ?_
   clear hr
   try cbv
   obtain rfl:=Option.some.inj h
   refine finQ_go hQ ?_
   try cbv
   exact⟨[],rfl,rfl,⟨rfl,⟨rfl,⟨rfl,⟨rfl,trivial⟩⟩⟩⟩,trivial,trivial⟩
  replace h:=bO7_inv h
  obtain⟨z62,z63,s64,l65,z66,l67,l68,hp,h⟩:=h
  obtain rfl:=Option.some.inj hp
  clear hp
  refine call_go rfl rfl ?_
  try cbv
  refine call_with hM hI [.ext 2,.ext 3] (T104x1 _ hr (fun r p n=>r= .t [.d (.agg [.int .u8 z62,.int .i64 z63,.str s64,.list true 6 l65,.int .i64 z66,.list false 1 l67]),.d (.bool true)]∧p=[.cells [.ow (.ext 1)],.tree .row true 3 l68 none]∧n=[]) ⟨rfl,rfl,rfl⟩:Trip _ _ _ _ _ (.t [.d (.agg [.int .u8 z62,.int .i64 z63,.str s64,.list true 6 l65,.int .i64 z66,.list false 1 l67]),.d (.bool true)]) [.cells [.ow (.ext 1)],.tree .row true 3 l68 none] []) rfl (by simp) ⟨rfl,⟨rfl,trivial⟩⟩ ⟨trivial,⟨trivial,trivial⟩⟩ (by simp) ?_
  clear hr
  try cbv
  refine seq_go ?_
  try cbv
  replace h:=letB_inv h
  obtain⟨b73,hz,h⟩:=h
  refine⟨b73,eqv_eq hz,?_⟩
  clear hz
  try cbv
  cases b73
  ·replace h:=ite_f Bool.false_ne_true h
   try cbv
   obtain rfl:=Option.some.inj h
   refine finQ_go hQ ?_
   try cbv
   exact⟨[],rfl,rfl,⟨rfl,⟨rfl,⟨rfl,⟨rfl,trivial⟩⟩⟩⟩,trivial,trivial⟩
  replace h:=ite_t rfl h
  try cbv
  replace h:=bO1_inv h
  obtain⟨b74,hr,h⟩:=h
  refine call_go rfl rfl ?_
  try cbv
  refine call_pure hM hI (T34 _ hr) rfl ?_
  clear hr
  try cbv
  obtain rfl:=Option.some.inj h
  refine finQ_go hQ ?_
  try cbv
  exact⟨[],rfl,rfl,⟨rfl,⟨rfl,⟨rfl,⟨rfl,trivial⟩⟩⟩⟩,trivial,trivial⟩
 replace h:=ite_f Bool.false_ne_true h
 try cbv
 refine seq_join (T:=Nat×Bool) (fun t=>⟨[(0,.v (.c (.ptr (.ext 0) 0))),(1,.v (.c (.ptr (.ext 2) 0))),(5,.v (.c (.ptr (.loc 0) 0))),(6,.v (.d (.bool false))),(95,.v (.d (.bool t.2)))],[(.ext 0,.cells [.ow (.ext 1)]),(.ext 1,.pmap 3 6 8 pm10 none),(.ext 2,.cells [.ow (.ext 3)]),(.ext 3,.tree .row true 3 l11 none),(.loc 0,.cells [.d (.int .i64 z1),.d (.int .i64 z2),.d (.int .i64 z3),.d (.int .u8 z4),.d (.int .i64 z5),.d (.str s6),.d (.list true 6 l7),.d (.int .i64 z8),.d (.list false 1 l9)])],736⟩) (fun t=>t.1≤m9∧L44x1_10 t.1 z2 pm10 l11 t.2=some r) ?_ ?_
 ·try cbv
  refine splitI (fun e=>?_) (fun e=>?_)
  ·replace h:=ite_t e h
   clear e
   try cbv
   exact join_next (m9,true) [0,1,5,6,95] [.ext 0,.ext 1,.ext 2,.ext 3,.loc 0] 736 ⟨by omega,h⟩ (by cbv)
  replace h:=ite_f e h
  clear e
  try cbv
  exact join_next (m9,false) [0,1,5,6,95] [.ext 0,.ext 1,.ext 2,.ext 3,.loc 0] 736 ⟨by omega,h⟩ (by cbv)
 clear h
 rintro⟨m10,b75⟩ ⟨hm10,h⟩
 replace hm10:m10≤m9:=hm10
 obtain _ | m10:=m10
 ·replace h:L44x1_10 0 z2 pm10 l11 b75=some r:=h
  rw[L44x1_10]at h
  cases h
 replace h:L44x1_10 (m10+1) z2 pm10 l11 b75=some r:=h
 rw[L44x1_10]at h
 try cbv
 cases b75
 ·replace h:=ite_f Bool.false_ne_true h
  try cbv
  refine seq_go ?_
  try cbv
  obtain rfl:=Option.some.inj h
  refine finQ_go hQ ?_
  try cbv
  exact⟨[],rfl,rfl,⟨rfl,⟨rfl,⟨rfl,⟨rfl,trivial⟩⟩⟩⟩,trivial,trivial⟩
 replace h:=ite_t rfl h
 try cbv
 refine seq_join (T:=Nat×(List PRow)×List D) (fun t=>⟨[(1,.v (.c (.ptr (.ext 2) 0))),(5,.v (.c (.ptr (.loc 0) 0))),(6,.v (.d (.bool false))),(14,.v (.c (.ow (.loc 832))))],[(.ext 0,.cells [.ow (.ext 1)]),(.ext 1,.pmap 3 6 8 t.2.1 none),(.ext 2,.cells [.ow (.ext 3)]),(.ext 3,.tree .row true 3 l11 none),(.loc 0,.cells [.d (.int .i64 z1),.d (.int .i64 z2),.d (.int .i64 z3),.d (.int .u8 z4),.d (.int .i64 z5),.d (.str s6),.d (.list true 6 l7),.d (.int .i64 z8),.d (.list false 1 l9)]),(.loc 832,.tree .flat true 6 t.2.2 none)],896⟩) (fun t=>t.1≤m10∧L44x1_11 t.1 z2 l11 t.2.1 t.2.2=some r) ?_ ?_
 ·try cbv
  replace h:=bS_inv h
  rcases h with⟨p79,hr,h⟩ | ⟨pm78,hr,h⟩
  ·replace h:=bO2_inv h
   obtain⟨pm76,l77,hp,h⟩:=h
   obtain rfl:=Option.some.inj hp
   clear hp
   refine call_go rfl rfl ?_
   try cbv
   refine call_with hM hI [.ext 0,.ext 1] (T42 _ hr (fun r p n=>r= .v (.c (.ow (.loc 0)))∧p=[.cells [.ow (.ext 1)],.pmap 3 6 8 pm76 none]∧n=[.tree .flat true 6 l77 none]) ⟨rfl,rfl,rfl⟩:Trip _ _ _ _ _ (.v (.c (.ow (.loc 0)))) [.cells [.ow (.ext 1)],.pmap 3 6 8 pm76 none] [.tree .flat true 6 l77 none]) rfl (by simp) ⟨rfl,⟨rfl,trivial⟩⟩ ⟨trivial,⟨trivial,trivial⟩⟩ (by simp) ?_
   clear hr
   try cbv
   exact join_next (m10,(pm76,l77)) [1,5,6,14] [.ext 0,.ext 1,.ext 2,.ext 3,.loc 0,.loc 832] 896 ⟨by omega,h⟩ (by cbv)
  refine call_go rfl rfl ?_
  try cbv
  refine call_with hM hI [.ext 0,.ext 1] (T42 _ hr (fun r p n=>r= .v (.c (.ow (.loc 0)))∧p=[.cells [.ow (.ext 1)],.pmap 3 6 8 pm78 none]∧n=[.tree .row true 6 [] none]) ⟨rfl,rfl,rfl⟩:Trip _ _ _ _ _ (.v (.c (.ow (.loc 0)))) [.cells [.ow (.ext 1)],.pmap 3 6 8 pm78 none] [.tree .row true 6 [] none]) rfl (by simp) ⟨rfl,⟨rfl,trivial⟩⟩ ⟨trivial,⟨trivial,trivial⟩⟩ (by simp) ?_
  clear hr
  try cbv
  refine join_nextG (m10,(pm78,([]:List D))) [.flatten (.loc 832)] [] [1,5,6,14] [.ext 0,.ext 1,.ext 2,.ext 3,.loc 0,.loc 832] 896 ⟨by omega,h⟩ ?_
  try cbv
  first | done | exact rfl | cbv
 clear h
 rintro⟨m11,pm81,l82⟩ ⟨hm11,h⟩
 replace hm11:m11≤m10:=hm11
 obtain _ | m11:=m11
 ·replace h:L44x1_11 0 z2 l11 pm81 l82=some r:=h
  rw[L44x1_11]at h
  cases h
 replace h:L44x1_11 (m11+1) z2 l11 pm81 l82=some r:=h
 rw[L44x1_11]at h
 try cbv
 refine seq_go ?_
 try cbv
 replace h:=bS_inv h
 rcases h with⟨l83,hr,h⟩ | ⟨p89,hr,h⟩
 ·refine call_go rfl rfl ?_
  try cbv
  refine call_with hM hI [.ext 2,.ext 3] (T105x1 _ hr (fun r p n=>r= .v (.c (.ow (.loc 0)))∧p=[.cells [.ow (.ext 1)],.tree .row true 3 l83 none]∧n=[.tree .row true 6 [] none]) ⟨rfl,rfl,rfl⟩:Trip _ _ _ _ _ (.v (.c (.ow (.loc 0)))) [.cells [.ow (.ext 1)],.tree .row true 3 l83 none] [.tree .row true 6 [] none]) rfl (by simp) ⟨rfl,⟨rfl,trivial⟩⟩ ⟨trivial,⟨trivial,trivial⟩⟩ (by simp) ?_
  clear hr
  try cbv
  replace h:=bO1_inv h
  obtain⟨b84,hr,h⟩:=h
  refine call_gs [.freeze (.loc 832)] rfl rfl ?_
  try cbv
  first | refine⟨(rfl:(_:Nat)=_),?_⟩ | refine⟨True.intro,?_⟩ | skip
  refine callfv_with hM hI [.loc 1024] rfl rfl (Trip.lend (targs':=[.d (.list true 6 l82),.c (.ow (.ext 0))]) (T48 _ hr) [.tree .row true 6 [] none] rfl rfl rfl rfl rfl rfl) rfl (by simp) ⟨rfl,trivial⟩ ⟨trivial,trivial⟩ (by simp) ?_
  clear hr
  try cbv
  obtain rfl:=Option.some.inj h
  refine finQ_go hQ ?_
  try cbv
  exact⟨[],rfl,rfl,⟨rfl,⟨rfl,⟨rfl,⟨rfl,trivial⟩⟩⟩⟩,trivial,trivial⟩
 replace h:=bO2_inv h
 obtain⟨l85,l86,hp,h⟩:=h
 obtain rfl:=Option.some.inj hp
 clear hp
 refine call_go rfl rfl ?_
 try cbv
 refine call_with hM hI [.ext 2,.ext 3] (T105x1 _ hr (fun r p n=>r= .v (.c (.ow (.loc 0)))∧p=[.cells [.ow (.loc 1)],.gone]∧n=[.tree .row true 6 l85 none,.tree .row true 3 l86 none]) ⟨rfl,rfl,rfl⟩:Trip _ _ _ _ _ (.v (.c (.ow (.loc 0)))) [.cells [.ow (.loc 1)],.gone] [.tree .row true 6 l85 none,.tree .row true 3 l86 none]) rfl (by simp) ⟨rfl,⟨rfl,trivial⟩⟩ ⟨trivial,⟨trivial,trivial⟩⟩ (by simp) ?_
 clear hr
 try cbv
 replace h:=bO1_inv h
 obtain⟨b87,hr,h⟩:=h
 refine call_gs [.freeze (.loc 832)] rfl rfl ?_
 try cbv
 first | refine⟨(rfl:(_:Nat)=_),?_⟩ | refine⟨True.intro,?_⟩ | skip
 refine callfv_with hM hI [.loc 1024] rfl rfl (Trip.lend (targs':=[.d (.list true 6 l82),.c (.ow (.ext 0))]) (T48 _ hr) [.tree .row true 6 l85 none] rfl rfl rfl rfl rfl rfl) rfl (by simp) ⟨rfl,trivial⟩ ⟨trivial,trivial⟩ (by simp) ?_
 clear hr
 try cbv
 obtain rfl:=Option.some.inj h
 refine finQ_go hQ ?_
 try cbv
 exact⟨[.loc 1025],rfl,rfl,⟨rfl,⟨rfl,⟨rfl,trivial⟩⟩⟩,⟨rfl,trivial⟩,trivial⟩
end Go.Proofs.Ytiiojajgajnhpaa
end
set_option linter.unusedVariables false
noncomputable section
namespace Go.Proofs.Ytiiojajgajnhpaa
open Go Go.AM
def docRow (c:Ch):D:=.agg [.int .i64 c.key,.int .i64 c.room,.list true 6 (c.q.map VV.row)]
abbrev DL (S:List Ch):List D:=S.map docRow
theorem wsucc {j:Nat}(h:j≤1000):IntKind.wrap .i64 ((j:Int)+1)=((j+1:Nat):Int):=by rw[iw (by omega) (by omega)];omega
theorem place (z:Int):∀S:List Ch,(getC z S=none∧∀c∈S,c.key≠z)∨∃(i:Nat) (c:Ch),S[i]?=some c∧getC z S=some c∧c.key=z∧
  (∀(j:Nat) d,j<i→S[j]?=some d→d.key≠z)∧(∀c',updC z c' S=S.set i c')∧delC z S=S.take i++S.drop (i+1)
 | []=>.inl ⟨rfl,by simp⟩
 | c::r=>by
  by_cases e:c.key=z
  ·exact .inr ⟨0,c,rfl,by simp[getC,e],e,fun j d hj=>absurd hj (by omega),fun c'=>by simp[updC,e],by simp[delC,e]⟩
  ·rcases place z r with⟨h1,h2⟩ | ⟨i,d,h1,h2,h3,h4,h5,h6⟩
   ·refine .inl ⟨by simp[getC,e,h1],fun d hd=>?_⟩
    rcases List.mem_cons.1 hd with rfl | hd
    ·exact e
    ·exact h2 d hd
   ·refine .inr ⟨i+1,d,h1,by simp[getC,e,h2],h3,fun j d' hj hd=>?_,fun c'=>by simp[updC,e,h5],by simp[delC,e,h6]⟩
    cases j with
    | zero=>simp at hd;rw[←hd];exact e
    | succ j=>exact h4 j d' (by omega) (by simpa using hd)
section
variable {γ:Type}{S:List Ch}{i:Nat}{c:Ch}
theorem rowIn (h:S[i]?=some c):0≤(i:Int)∧(i:Int).toNat<(DL S).length:=by
 have:=(List.getElem?_eq_some_iff.1 h).1
 simp only[List.length_map]
 omega
theorem getRow (h:S[i]?=some c) (k:Int→Int→List D→Option γ):needF (0≤(i:Int)∧(i:Int).toNat<(DL S).length) (getN (DL S) (i:Int).toNat fun x=>ds_t171 x k)=k c.key c.room (c.q.map VV.row):=by
 rw[need_pos (rowIn h),getN_some (x:=docRow c) (by simp[h])]
 rfl
theorem setRow {key room:Int}{l:List D}{c':Ch}(hk:c'.key=key) (hr:c'.room=room) (hq:c'.q.map VV.row=l) (k:List D→Option γ):
  setF (DL S) (i:Int).toNat (.agg [.int .i64 key,.int .i64 room,.list true 6 l]) k=k (DL (S.set i c')):=by
 subst hk hr hq
 unfold setF
 congr 1
 simp[List.map_set,docRow]
end
theorem ev106N {z:Int}{S:List Ch}(hn:∀c∈S,c.key≠z) (hl:S.length≤1000):Ev (fun n=>F106x1 n z (DL S)) (-1,DL S):=by
 have loop:∀i:Nat,i≤S.length→Ev (fun n=>L106x1_1 n z (DL S) (i:Int)) (-1,DL S):=by
  refine down S.length ?_ (fun i hi ih=>?_)
  ·refine .succ ?_
   simp only[L106x1_1,lenF,List.length_map,Int.lt_irrefl,if_false]
   exact .succ (by simp only[L106x1_2,Bool.false_eq_true,if_false];exact .ret)
  ·have hx:S[i]?=some S[i]:=List.getElem?_eq_getElem hi
   refine .succ ?_
   simp only[L106x1_1,lenF,List.length_map,if_pos (ilt hi)]
   refine .succ ?_
   simp only[L106x1_2,if_true,getRow hx,if_neg (hn _ (List.getElem_mem hi))]
   refine .succ ?_
   simp only[L106x1_3,Bool.false_eq_true,if_false,letF,wsucc (show i≤1000 by omega)]
   exact ih
 unfold F106x1
 exact loop 0 (Nat.zero_le _)
theorem ev106S {z:Int}{S:List Ch}{i:Nat}{c:Ch}(hx:S[i]?=some c) (hk:c.key=z) (hb:∀(j:Nat) d,j<i→S[j]?=some d→d.key≠z) (hl:S.length≤1000):Ev (fun n=>F106x1 n z (DL S)) ((i:Int),DL S):=by
 have hi:=(List.getElem?_eq_some_iff.1 hx).1
 have loop:∀j:Nat,j≤i→Ev (fun n=>L106x1_1 n z (DL S) (j:Int)) ((i:Int),DL S):=by
  refine down i ?_ (fun j hj ih=>?_)
  ·refine .succ ?_
   simp only[L106x1_1,lenF,List.length_map,if_pos (ilt hi)]
   refine .succ ?_
   simp only[L106x1_2,if_true,getRow hx,if_pos hk]
   exact .succ (by simp only[L106x1_3,if_true];exact .ret)
  ·have hj':j<S.length:=by omega
   have hy:S[j]?=some S[j]:=List.getElem?_eq_getElem hj'
   refine .succ ?_
   simp only[L106x1_1,lenF,List.length_map,if_pos (ilt hj')]
   refine .succ ?_
   simp only[L106x1_2,if_true,getRow hy,if_neg (hb j _ hj hy)]
   refine .succ ?_
   simp only[L106x1_3,Bool.false_eq_true,if_false,letF,wsucc (show j≤1000 by omega)]
   exact ih
 unfold F106x1
 exact loop 0 (Nat.zero_le _)
def Fits (S:List Ch):Prop:=∀c∈S,1≤c.room∧c.room≤8∧(c.q.length:Int)≤c.room∧∀v∈c.q,VS v
theorem Fits.of {pm:List PRow}{S:List Ch}(h:QOK pm S):Fits S:=QOK.vs h
theorem Fits.at {S:List Ch}(h:Fits S) {i:Nat}{c:Ch}(hx:S[i]?=some c):(c.q.length:Int)≤c.room∧c.q.length≤8∧∀v∈c.q,VS v:=by
 obtain⟨_,h2,h3,h4⟩:=h c (List.mem_of_getElem? hx)
 exact⟨h3,by omega,h4⟩
theorem smR {q:List VV}(h:∀v∈q,VS v) (hl:q.length≤1000):Sm (R q):=by
 refine .mk (by simpa using hl) (fun v hv=>?_) (fun v hv=>?_)
 ·obtain⟨w,hw,e⟩:=List.mem_map.1 hv
  rw[←row_inj e];exact (h w hw).p
 ·obtain⟨w,hw,e⟩:=List.mem_map.1 hv
  rw[←row_inj e];exact (h w hw).f
theorem ev45 {S:List Ch}(hf:Fits S) (hl:S.length≤1000) (z:Int):Ev (fun n=>F45x1 n z (DL S)) (fullC z S,DL S):=by
 unfold F45x1
 rcases place z S with⟨h1,h2⟩ | ⟨i,c,h1,h2,h3,h4,h5,h6⟩
 ·refine Ev.bO2 (ev106N h2 hl) ?_
  simp only[if_pos (show (-1:Int)<0 by decide),fullC,h1]
  exact .ret
 ·refine Ev.bO2 (ev106S h1 h3 h4 hl) ?_
  have hs:S.set i c=S:=by rw[←h5,updC_same h2]
  have:=(hf.at h1).1
  simp only[if_neg (show ¬(i:Int)<0 by omega),getRow h1]
  simp only[need_pos (rowIn h1)]
  simp only[lenF,setRow (c':=c) rfl rfl rfl,hs,fullC,h2,List.length_map]
  by_cases e:(c.q.length:Int)=c.room
  ·simp only[if_pos (show c.room≤(c.q.length:Int)by omega),decide_eq_true e];exact .ret
  ·simp only[if_neg (show ¬c.room≤(c.q.length:Int)by omega),decide_eq_false e];exact .ret
theorem ev46 {S:List Ch}(hl:S.length≤1000) (z:Int):Ev (fun n=>F46x1 n z (DL S)) (emptyC z S,DL S):=by
 unfold F46x1
 rcases place z S with⟨h1,h2⟩ | ⟨i,c,h1,h2,h3,h4,h5,h6⟩
 ·refine Ev.bO2 (ev106N h2 hl) ?_
  simp only[if_pos (show (-1:Int)<0 by decide),emptyC,h1]
  exact .ret
 ·refine Ev.bO2 (ev106S h1 h3 h4 hl) ?_
  have hs:S.set i c=S:=by rw[←h5,updC_same h2]
  simp only[if_neg (show ¬(i:Int)<0 by omega),getRow h1]
  simp only[lenF,setRow (c':=c) rfl rfl rfl,hs,emptyC,h2,List.length_map]
  by_cases e:(c.q.length:Int)=0
  ·simp only[if_pos e,decide_eq_true e];exact .ret
  ·simp only[if_neg e,decide_eq_false e];exact .ret
theorem ev102 {S:List Ch}(hl:S.length≤1000) (z room:Int):∃r,Ev (fun n=>F102x1 n z room (DL S)) r∧(r= .inl (DL (makeC z room S))∨r= .inr (DL (makeC z room S))):=by
 unfold F102x1
 have no:Ev (fun n=>L102x1_1 n z room false (DL S)) (.inr (DL S)):=.succ (by simp only[L102x1_1,Bool.false_eq_true,if_false];exact .ret)
 rcases place z S with⟨h1,h2⟩ | ⟨i,c,h1,h2,h3,h4,h5,h6⟩
 ·simp only[makeC,h1]
  by_cases c1:(1:Int)≤room
  rotate_left
  ·refine⟨_,Ev.bO2 (ev106N h2 hl) ?_,.inr (by rw[if_pos (.inl (by omega))])⟩
   simp only[if_pos (show (-1:Int)<0 by decide),if_neg c1]
   exact no
  by_cases c2:room≤8
  rotate_left
  ·refine⟨_,Ev.bO2 (ev106N h2 hl) ?_,.inr (by rw[if_pos (.inr (by omega))])⟩
   simp only[if_pos (show (-1:Int)<0 by decide),if_pos c1,if_neg c2]
   exact no
  refine⟨_,Ev.bO2 (ev106N h2 hl) ?_,.inl (by rw[if_neg (by omega)])⟩
  simp only[if_pos (show (-1:Int)<0 by decide),if_pos c1,if_pos c2]
  refine .succ ?_
  have hM:10000<maxLen:=by decide
  have ha:∀k:List D→Option ((List D) ⊕ (List D)),appF 40 (DL S) [.agg [.int .i64 z,.int .i64 room,.list true 6 []]] k=k (DL (S++[⟨z,room,[]⟩])):=fun k=>by
   rw[appF_ok (by simp only[List.length_map,List.length_cons,List.length_nil];omega)]
   simp[docRow]
  simp only[L102x1_1,if_true,letL,ha]
  exact .ret
 ·refine⟨.inr (DL S),Ev.bO2 (ev106S h1 h3 h4 hl) ?_,.inr (by simp only[makeC,h2])⟩
  simp only[if_neg (show ¬(i:Int)<0 by omega)]
  exact no
theorem ev103 {S:List Ch}(hf:Fits S) (hl:S.length≤1000) (z:Int) {v:VV}(hv:VS v):Ev (fun n=>F103x1 n z v.k v.i v.nm v.fs v.id v.pt (DL S)) ((pushC z v S).1,DL (pushC z v S).2):=by
 unfold F103x1
 refine Ev.bO2 (ev45 hf hl z) ?_
 rcases place z S with⟨h1,h2⟩ | ⟨i,c,h1,h2,h3,h4,h5,h6⟩
 ·simp only[fullC,pushC,h1,if_true]
  exact .ret
 ·simp only[fullC,pushC,h2]
  by_cases e:(c.q.length:Int)=c.room
  ·simp only[decide_eq_true e,if_true,if_pos e]
   exact .ret
  ·simp only[decide_eq_false e,Bool.false_eq_true,if_false,if_neg e]
   refine Ev.bO2 (ev106S h1 h3 h4 hl) ?_
   simp only[getRow h1]
   refine Ev.bO6 (ev29 hv) ?_
   have hM:10000<maxLen:=by decide
   have h8:=(hf.at h1).2.1
   have ha:∀k:List D→Option (Bool×List D),appF 88 (c.q.map VV.row) [.agg [.int .u8 v.k,.int .i64 v.i,.str v.nm,.list true 6 v.fs,.int .i64 v.id,.list false 1 v.pt]] k=k ((c.q++[v]).map VV.row):=fun k=>by
    rw[appF_ok (by simp only[List.length_map,List.length_cons,List.length_nil];omega)]
    simp[VV.row]
   simp only[ha,need_pos (rowIn h1),setRow (c':={c with q:=c.q++[v]}) rfl rfl rfl,h5]
   exact .ret
end Go.Proofs.Ytiiojajgajnhpaa
end
set_option linter.unusedVariables false
noncomputable section
namespace Go.Proofs.Ytiiojajgajnhpaa
open Go Go.AM
theorem ev104N {S:List Ch}(hl:S.length≤1000) {z:Int}(he:emptyC z S=true):Ev (fun n=>F104x1 n z (DL S)) (.inl (DL S)):=by
 unfold F104x1
 refine Ev.bO2 (ev46 hl z) ?_
 simp only[he,if_true]
 exact .ret
theorem ev104S {S:List Ch}(hf:Fits S) (hl:S.length≤1000) {z:Int}{c:Ch}{v:VV}{q:List VV}(hg:getC z S=some c) (hq:c.q=v::q):
  Ev (fun n=>F104x1 n z (DL S)) (.inr (v.k,v.i,v.nm,v.fs,v.id,v.pt,DL (updC z {c with q:=q} S))):=by
 unfold F104x1
 refine Ev.bO2 (ev46 hl z) ?_
 have he:emptyC z S=false:=by
  simp[emptyC,hg,hq]
  omega
 simp only[he,Bool.false_eq_true,if_false]
 rcases place z S with⟨h1,h2⟩ | ⟨i,d,h1,h2,h3,h4,h5,h6⟩
 ·rw[hg]at h1;cases h1
 ·rw[hg]at h2
  cases h2
  refine Ev.bO2 (ev106S h1 h3 h4 hl) ?_
  simp only[getRow h1]
  have g0:(c.q.map VV.row)[((0:Nat):Int).toNat]?=some v.row:=by rw[hq];rfl
  have g1:∀k:D→Option ((List D) ⊕ (Int×Int×ByteArray×List D×Int×List D×List D)),getF (c.q.map VV.row) 0 k=k v.row:=fun k=>by rw[hq];rfl
  have g2:∀k:List D→Option ((List D) ⊕ (Int×Int×ByteArray×List D×Int×List D×List D)),fromF (c.q.map VV.row) 1 k=k (R q):=fun k=>by
   rw[hq]
   unfold fromF
   rw[if_pos ⟨by decide,by simp only[List.length_map,List.length_cons];omega⟩]
   rfl
  obtain⟨_,h8,hv⟩:=hf.at h1
  have hq8:q.length≤1000:=by rw[hq]at h8;simp at h8;omega
  have hvq:∀w∈q,VS w:=fun w hw=>hv w (by rw[hq];exact List.mem_cons_of_mem _ hw)
  simp only[g1,ds25,need_pos (rowIn h1),g2]
  refine Ev.bO1 (ev93 (R q) (listR hvq hq8) (smR hvq hq8)) ?_
  simp only[setRow (c':={c with q:=q}) rfl rfl rfl,h5]
  exact .ret
theorem ev105N {S:List Ch}(hl:S.length≤1000) {z:Int}(hg:getC z S=none):Ev (fun n=>F105x1 n z (DL S)) (.inl (DL S)):=by
 unfold F105x1
 rcases place z S with⟨h1,h2⟩ | ⟨i,d,h1,h2,h3,h4,h5,h6⟩
 ·refine Ev.bO2 (ev106N h2 hl) ?_
  simp only[if_pos (show (-1:Int)<0 by decide)]
  exact .succ (by simp only[L105x1_1,if_true];exact .ret)
 ·rw[hg]at h2;cases h2
theorem ev105S {S:List Ch}(hl:S.length≤1000) {z:Int}{c:Ch}(hg:getC z S=some c):Ev (fun n=>F105x1 n z (DL S)) (.inr (R c.q,DL (delC z S))):=by
 unfold F105x1
 rcases place z S with⟨h1,h2⟩ | ⟨i,d,h1,h2,h3,h4,h5,h6⟩
 ·rw[hg]at h1;cases h1
 ·rw[hg]at h2
  cases h2
  have hi:=(List.getElem?_eq_some_iff.1 h1).1
  refine Ev.bO2 (ev106S h1 h3 h4 hl) ?_
  simp only[if_neg (show ¬(i:Int)<0 by omega)]
  refine .succ ?_
  simp only[L105x1_1,Bool.false_eq_true,if_false,getRow h1]
  have e1:(i:Int)=(((i:Int).toNat:Nat):Int):=by omega
  have e2:IntKind.wrap .i64 ((i:Int)+1)=(((i:Int).toNat+1:Nat):Int):=by rw[wsucc (by omega)];omega
  have hM:10000<maxLen:=by decide
  have a1:∀k:List D→Option ((List D) ⊕ (List D×List D)),appF 40 ([]:List D) ((DL S).take (i:Int).toNat) k=k ((DL S).take (i:Int).toNat):=fun k=>appF_ok (by simp only[List.length_nil,List.length_take,List.length_map];omega)
  have a2:∀k:List D→Option ((List D) ⊕ (List D×List D)),appF 40 ((DL S).take (i:Int).toNat) ((DL S).drop ((i:Int).toNat+1)) k=k (DL (delC z S)):=fun k=>by
   rw[appF_ok (by simp only[List.length_take,List.length_drop,List.length_map];omega),h6]
   have:(i:Int).toNat=i:=by omega
   rw[this]
   simp[List.map_take,List.map_drop]
  simp only[need_pos e1,letL,a1,letF]
  simp only[need_pos e2,a2]
  exact .ret
theorem set_list {l:List D}(h:ListS tab 49 l) {i:Nat}{x:D}(hx:RowS tab 49 x):ListS tab 49 (l.set i x):=by
 refine⟨by simpa using h.1,fun y hy=>?_⟩
 rcases List.mem_or_eq_of_mem_set hy with hy | rfl
 ·exact h.2 y hy
 ·exact hx
theorem spoil_ev (pm:List PRow) (dl:List D) (N:Nat):∀i:Nat,i≤N→∀l:List D,l.length=N→ListS tab 49 l→Ev (fun n=>L44x1_6 n pm dl (i:Int) l) (.inl (true,pm,dl)):=by
 refine down N ?_ (fun i hi ih=>?_)
 ·intro l hl h
  refine .succ ?_
  simp only[L44x1_6,lenF,hl,Int.lt_irrefl,if_false]
  exact .succ (by simp only[L44x1_7,Bool.false_eq_true,if_false];exact .ret)
 ·intro l hl h
  have hi':i<l.length:=by omega
  obtain⟨v,hx,hm,hv⟩:=rowV h hi'
  have hb:0≤(i:Int)∧(i:Int).toNat<l.length:=by omega
  have hx':l[(i:Int).toNat]?=some v.row:=by rw[show (i:Int).toNat=i by omega];exact hx
  refine .succ ?_
  simp only[L44x1_6,lenF,if_pos (show (i:Int)<(l.length:Int)by omega)]
  refine .succ ?_
  simp only[L44x1_7,if_true,need_pos hb,getN_some hx',ds25,letF,wrap_succ hi' h.1,setF]
  have hv':VT {v with k:=99}:=⟨rfl,hv.i,hv.nm,hv.fs,hv.id,hv.pt⟩
  exact ih (l.set (i:Int).toNat (VV.row {v with k:=99})) (by simpa using hl) (set_list h hv'.rowS)
abbrev OneR:=((Bool×(List PRow)×List D) ⊕ (Bool×(List PRow)×List D))
def Good (S:List Ch) (A:Nat→Option OneR):Prop:=∃pm' S',QOK pm' S'∧S'.length≤S.length+1∧(Ev A (.inl (true,pm',DL S'))∨Ev A (.inr (true,pm',DL S')))
theorem Good.succ {S:List Ch}{A:Nat→Option OneR}(h:Good S fun n=>A (n+1)):Good S A:=by
 obtain⟨pm,S',h1,h2,h3⟩:=h
 exact⟨pm,S',h1,h2,h3.imp Ev.succ Ev.succ⟩
theorem updC_len {z:Int}{c':Ch}:∀{S:List Ch},(updC z c' S).length=S.length
 | []=>rfl
 | c::r=>by unfold updC;split<;>simp[updC_len]
theorem delC_len {z:Int}:∀{S:List Ch},(delC z S).length≤S.length
 | []=>Nat.le_refl _
 | c::r=>by
  unfold delC
  split
  ·simp
  ·simp only[List.length_cons]
   have:=delC_len (z:=z) (S:=r)
   omega
theorem push_len {z:Int}{v:VV}{S:List Ch}:(pushC z v S).2.length=S.length:=by
 unfold pushC
 split
 ·rfl
 ·split
  ·rfl
  ·exact updC_len
theorem make_len {z r:Int}{S:List Ch}:(makeC z r S).length≤S.length+1:=by
 unfold makeC
 split
 ·omega
 ·split
  ·omega
  ·simp
theorem zero_VT:VT zeroV:=⟨rfl,rfl,(show ByteArray.empty.size≤maxLen by decide),⟨Nat.zero_le _,by simp[zeroV]⟩,rfl,⟨Nat.zero_le _,by simp[zeroV]⟩⟩
section
variable {pm:List PRow}{S:List Ch}(h:QOK pm S) (hl:S.length≤900)
include h hl
theorem one_make (z1 z2 z3 z4 z5:Int) (s6:ByteArray) (l7:List D) (z8:Int) (l9:List D) (z12 z13:Int) (s14:ByteArray) (z15:Int) (l16 l17:List D):
  Good S fun n=>L44x1_1 n z1 z2 z3 z4 z5 s6 l7 z8 l9 pm (DL S) z12 z13 s14 z15 l16 l17 true:=by
 obtain⟨pm',e1,k1⟩:=evMake h z2 z3
 obtain⟨r,e2,e3⟩:=ev102 (show S.length≤1000 by omega) z2 z3
 refine .succ ⟨pm',_,k1,make_len,?_⟩
 simp only[L44x1_1,if_true]
 rcases e3 with rfl | rfl
 ·exact .inr (Ev.bO1 e1 (Ev.bSl e2 .ret))
 ·exact .inl (Ev.bO1 e1 (Ev.bSr e2 .ret))
open Classical in
theorem one_push (z1 z2:Int) {v:VV}(hv:VS v):Good S fun n=>L44x1_4 n z1 z2 v.k v.i v.nm v.fs v.id v.pt pm (DL S) v.k v.i v.nm v.id v.fs v.pt true:=by
 obtain⟨pm',e1,k1⟩:=evPush h z2 hv
 have e2:=ev103 (Fits.of h) (show S.length≤1000 by omega) z2 hv
 have e3:=ev11 hv.t hv.t
 rw[decide_eq_true rfl]at e3
 refine .succ ⟨pm',_,k1,by rw[push_len];omega,.inl ?_⟩
 simp only[L44x1_4,if_true]
 refine Ev.bO4 e1 (Ev.bO2 e2 ?_)
 simp only[letB,beq_self_eq_true,Bool.not_true,Bool.false_eq_true,if_false]
 refine Ev.bO1 e3 ?_
 simp only[Bool.not_true]
 refine .succ ?_
 simp only[L44x1_5,Bool.false_eq_true,if_false]
 exact spoil_ev pm' _ _ 0 (Nat.zero_le _) v.fs rfl hv.t.fs
open Classical in
theorem one_pop (z1 z2:Int):Good S fun n=>L44x1_9 n z1 z2 pm (DL S) true:=by
 obtain⟨pm',e1,k1⟩:=evPop h z2
 have hl':S.length≤1000:=by omega
 cases hg:getC z2 S with
 | none=>
  have hp:popC z2 S=(zeroV,false,S):=by simp[popC,hg]
  rw[hp]at e1 k1
  have e2:=ev104N hl' (z:=z2) (by simp[emptyC,hg])
  have e3:=ev11 zero_VT zero_VT
  rw[decide_eq_true rfl]at e3
  refine .succ ⟨pm',S,k1,by omega,.inl ?_⟩
  simp only[L44x1_9,if_true]
  refine Ev.bO8 e1 (Ev.bSl e2 ?_)
  simp only[letB,beq_self_eq_true,if_true]
  exact Ev.bO1 e3 .ret
 | some c=>
  cases hq:c.q with
  | nil=>
   have hp:popC z2 S=(zeroV,false,S):=by simp[popC,hg,hq]
   rw[hp]at e1 k1
   have e2:=ev104N hl' (z:=z2) (by simp[emptyC,hg,hq])
   have e3:=ev11 zero_VT zero_VT
   rw[decide_eq_true rfl]at e3
   refine .succ ⟨pm',S,k1,by omega,.inl ?_⟩
   simp only[L44x1_9,if_true]
   refine Ev.bO8 e1 (Ev.bSl e2 ?_)
   simp only[letB,beq_self_eq_true,if_true]
   exact Ev.bO1 e3 .ret
  | cons v q=>
   have hp:popC z2 S=(v,true,updC z2 {c with q:=q} S):=by simp[popC,hg,hq]
   rw[hp]at e1 k1
   have hv:VS v:=(QOK.vs h c (getC_mem hg)).2.2.2 v (by rw[hq];simp)
   have e2:=ev104S (Fits.of h) hl' hg hq
   have e3:=ev11 hv.t hv.t
   rw[decide_eq_true rfl]at e3
   refine .succ ⟨pm',_,k1,by rw[updC_len];omega,.inl ?_⟩
   simp only[L44x1_9,if_true]
   refine Ev.bO8 e1 (Ev.bSr e2 ?_)
   refine Ev.bO7 .ret ?_
   simp only[letB,beq_self_eq_true,if_true]
   exact Ev.bO1 e3 .ret
open Classical in
theorem one_drop (z2:Int):Good S fun n=>L44x1_10 n z2 pm (DL S) true:=by
 have hl':S.length≤1000:=by omega
 cases hg:getC z2 S with
 | none=>
  have e1:=evDropN h hg
  have e2:=ev105N hl' hg
  have nl:ListS tab 49 ([]:List D):=⟨Nat.zero_le _,by simp⟩
  have e3:=sameL [] [] nl nl
  rw[decide_eq_true rfl]at e3
  refine .succ ⟨pm,S,h,by omega,.inl ?_⟩
  simp only[L44x1_10,if_true]
  refine Ev.bSr e1 (.succ ?_)
  simp only[L44x1_11]
  exact Ev.bSl e2 (Ev.bO1 e3 .ret)
 | some c=>
  obtain⟨pm',e1,k1⟩:=evDropS h hg
  have e2:=ev105S hl' hg
  obtain⟨_,h8,h9,hv⟩:=QOK.vs h c (getC_mem hg)
  have e3:=sameR (l:=c.q) hv (by omega)
  refine .succ ⟨pm',_,k1,by have:=delC_len (z:=z2) (S:=S);omega,.inr ?_⟩
  simp only[L44x1_10,if_true]
  refine Ev.bSl e1 ?_
  show Ev (fun n=>L44x1_11 n z2 (DL S) pm' (R c.q)) _
  refine .succ ?_
  simp only[L44x1_11]
  refine Ev.bSr e2 ?_
  refine Ev.bO2 .ret ?_
  exact Ev.bO1 e3 .ret
end
theorem one_8 {pm:List PRow}{S:List Ch}(h:QOK pm S) (hl:S.length≤900) (z1 z2:Int) (b:Bool):Good S fun n=>L44x1_8 n z1 z2 pm (DL S) b:=by
 refine .succ ?_
 have p9:=one_pop h hl z1 z2
 have n9:Good S fun n=>L44x1_9 n z1 z2 pm (DL S) false:=by
  refine .succ ?_
  simp only[L44x1_9,Bool.false_eq_true,if_false]
  by_cases c:z1=6
  ·simp only[if_pos c];exact one_drop h hl z2
  ·simp only[if_neg c]
   refine .succ ⟨pm,S,h,by omega,.inl ?_⟩
   simp only[L44x1_10,Bool.false_eq_true,if_false]
   exact .ret
 cases b with
 | true=>simp only[L44x1_8,if_true];exact p9
 | false=>
  simp only[L44x1_8,Bool.false_eq_true,if_false]
  by_cases c:z1=5
  ·simp only[if_pos c];exact p9
  ·simp only[if_neg c];exact n9
theorem one_4 {pm:List PRow}{S:List Ch}(h:QOK pm S) (hl:S.length≤900) (z1 z2:Int) {v:VV}(hv:VS v) (b:Bool):Good S fun n=>L44x1_4 n z1 z2 v.k v.i v.nm v.fs v.id v.pt pm (DL S) v.k v.i v.nm v.id v.fs v.pt b:=by
 cases b with
 | true=>exact one_push h hl z1 z2 hv
 | false=>
  refine .succ ?_
  simp only[L44x1_4,Bool.false_eq_true,if_false]
  by_cases c:z1=4
  ·simp only[if_pos c];exact one_8 h hl z1 z2 true
  ·simp only[if_neg c];exact one_8 h hl z1 z2 false
theorem one_3 {pm:List PRow}{S:List Ch}(h:QOK pm S) (hl:S.length≤900) (z1 z2:Int) {v:VV}(hv:VS v) (b:Bool):Good S fun n=>L44x1_3 n z1 z2 v.k v.i v.nm v.fs v.id v.pt pm (DL S) v.k v.i v.nm v.id v.fs v.pt b:=by
 refine .succ ?_
 cases b with
 | true=>simp only[L44x1_3,if_true];exact one_4 h hl z1 z2 hv true
 | false=>
  simp only[L44x1_3,Bool.false_eq_true,if_false]
  by_cases c:z1=3
  ·simp only[if_pos c];exact one_4 h hl z1 z2 hv true
  ·simp only[if_neg c];exact one_4 h hl z1 z2 hv false
theorem one_2 {pm:List PRow}{S:List Ch}(h:QOK pm S) (hl:S.length≤900) (z1 z2:Int) {v:VV}(hv:VS v) (b:Bool):Good S fun n=>L44x1_2 n z1 z2 v.k v.i v.nm v.fs v.id v.pt pm (DL S) v.k v.i v.nm v.id v.fs v.pt b:=by
 refine .succ ?_
 cases b with
 | true=>simp only[L44x1_2,if_true];exact one_4 h hl z1 z2 hv true
 | false=>
  simp only[L44x1_2,Bool.false_eq_true,if_false]
  by_cases c:z1=2
  ·simp only[if_pos c];exact one_3 h hl z1 z2 hv true
  ·simp only[if_neg c];exact one_3 h hl z1 z2 hv false
theorem one_ev {pm:List PRow}{S:List Ch}(h:QOK pm S) (hl:S.length≤900) (a:QA) (ha:VS a.v):Good S fun n=>F44x1 n a.kd a.id a.rm a.v.k a.v.i a.v.nm a.v.fs a.v.id a.v.pt pm (DL S):=by
 have main:∀b:Bool,Good S fun n=>L44x1_1 n a.kd a.id a.rm a.v.k a.v.i a.v.nm a.v.fs a.v.id a.v.pt pm (DL S) a.v.k a.v.i a.v.nm a.v.id a.v.fs a.v.pt b:=by
  intro b
  cases b with
  | true=>exact one_make h hl ..
  | false=>
   refine .succ ?_
   simp only[L44x1_1,Bool.false_eq_true,if_false]
   by_cases c:a.kd=1
   ·simp only[if_pos c];exact one_2 h hl _ _ ha true
   ·simp only[if_neg c];exact one_2 h hl _ _ ha false
 have e:=ev29 ha
 unfold F44x1
 by_cases c:a.kd=0
 ·simp only[if_pos c]
  obtain⟨pm',S',h1,h2,h3⟩:=main true
  exact⟨pm',S',h1,h2,h3.imp (fun h3=>Ev.bO6 e h3) (fun h3=>Ev.bO6 e h3)⟩
 ·simp only[if_neg c]
  obtain⟨pm',S',h1,h2,h3⟩:=main false
  exact⟨pm',S',h1,h2,h3.imp (fun h3=>Ev.bO6 e h3) (fun h3=>Ev.bO6 e h3)⟩
end Go.Proofs.Ytiiojajgajnhpaa
end
set_option linter.unusedVariables false
noncomputable section
namespace Go.Proofs.Ytiiojajgajnhpaa
open Go Go.AM
def F43 (n:Nat):Option (Unit):=
 some ()
theorem T43 (n:Nat):F43 n=some ()→
    Trip Try.prog inv 43 [] [] (.v (.c (.ptr (.loc 0) 0))) [] [.cells [.ow (.loc 1)],.pmap 3 6 8 ([]:List PRow) none]:=by
 intro h
 unfold F43 at h
 refine Trip.of tab_ok tab_one fol Try.func43 rfl (by kernel_rfl) rfl rfl rfl (fun M hM hI=>?_)
 try cbv
 refine seq_go ?_
 try cbv
 refine seq_go ?_
 try cbv
 refine⟨3,6,8,?_⟩
 try cbv
 skip
 refine fin_go ?_
 try cbv
 exact⟨[.loc 96,.loc 32],rfl,rfl,trivial,⟨rfl,⟨rfl,trivial⟩⟩,trivial⟩
mutual
def L7_1:Nat→(List D)→Int→(List PRow)→(List D)→Option (Bool)
 | 0,_,_,_,_=>none
 | n+1,l1,z3,pm4,l5=>
  lenF l1 fun z6=>(if z3<z6 then L7_2 n l1 z3 pm4 l5 true else L7_2 n l1 z3 pm4 l5 false)
def L7_2:Nat→(List D)→Int→(List PRow)→(List D)→Bool→Option (Bool)
 | 0,_,_,_,_,_=>none
 | n+1,l1,z3,pm4,l5,b7=>
  (if b7=true then getF l1 z3 fun x8=>ds_t61 x8 fun z9 z10 z11 z12 z13 s14 l15 z16 l17=>bS (F44x1 n z9 z10 z11 z12 z13 s14 l15 z16 l17 pm4 l5) (fun p26=>bO3 (some p26) fun b18 pm19 l20=>letB (!b18) fun b21=>L7_3 n l1 z3 b21 pm19 l20) (fun p27=>bO3 (some p27) fun b22 pm23 l24=>letB (!b22) fun b25=>L7_3 n l1 z3 b25 pm23 l24)else some true)
def L7_3:Nat→(List D)→Int→Bool→(List PRow)→(List D)→Option (Bool)
 | 0,_,_,_,_,_=>none
 | n+1,l1,z3,b28,pm29,l30=>
  (if b28=true then some false else L7_4 n l1 z3 (0:Int) pm29 l30)
def L7_4:Nat→(List D)→Int→Int→(List PRow)→(List D)→Option (Bool)
 | 0,_,_,_,_,_=>none
 | n+1,l1,z3,z31,pm32,l33=>
  (if z31≤z3 then L7_5 n l1 z3 z31 pm32 l33 true else L7_5 n l1 z3 z31 pm32 l33 false)
def L7_5:Nat→(List D)→Int→Int→(List PRow)→(List D)→Bool→Option (Bool)
 | 0,_,_,_,_,_,_=>none
 | n+1,l1,z3,z31,pm32,l33,b34=>
  (if b34=true then getF l1 z31 fun x35=>ds_t61 x35 fun z36 z37 z38 z39 z40 s41 l42 z43 l44=>bO2 (F40 n z37 pm32) fun b45 pm46=>bO2 (F45x1 n z37 l33) fun b47 l48=>letB (!(b45==b47)) fun b49=>(if b49=true then L7_6 n l1 z3 z31 true pm46 l48 else bO2 (F41 n z37 pm46) fun b50 pm51=>bO2 (F46x1 n z37 l48) fun b52 l53=>letB (!(b50==b52)) fun b54=>L7_6 n l1 z3 z31 b54 pm51 l53)else letF (IntKind.wrap .i64 (z3+1)) fun z59=>L7_1 n l1 z59 pm32 l33)
def L7_6:Nat→(List D)→Int→Int→Bool→(List PRow)→(List D)→Option (Bool)
 | 0,_,_,_,_,_,_=>none
 | n+1,l1,z3,z31,b55,pm56,l57=>
  (if b55=true then some false else letF (IntKind.wrap .i64 (z31+1)) fun z58=>L7_4 n l1 z3 z58 pm56 l57)
end
def F7 (n:Nat) (l1:List D):Option (Bool):=
 bO1 (F36 n l1) fun b2=>(if b2=true then some true else bO0 (F43 n) (L7_1 n l1 (0:Int) ([]:List PRow) ([]:List D)))
theorem T7 (n:Nat):∀⦃l1:List D⦄ ⦃r1:Bool⦄,F7 n l1=some r1→
    Trip Try.prog inv 7 [.d (.list true 9 l1)] [] (.v (.d (.bool r1))) [] []:=by
 intro l1 r1 h
 unfold F7 at h
 refine Trip.of tab_ok tab_one fol Try.func7 rfl (by kernel_rfl) rfl rfl rfl (fun M hM hI=>?_)
 try cbv
 refine seq_go ?_
 try cbv
 refine seq_go ?_
 try cbv
 refine seq_go ?_
 try cbv
 replace h:=bO1_inv h
 obtain⟨b2,hr,h⟩:=h
 refine call_go rfl rfl ?_
 try cbv
 refine call_pure hM hI (T36 _ hr) rfl ?_
 clear hr
 try cbv
 cases b2
 rotate_left
 ·replace h:=ite_t rfl h
  try cbv
  refine seq_go ?_
  try cbv
  obtain rfl:=Option.some.inj h
  refine fin_go ?_
  try cbv
  exact⟨[],rfl,rfl,trivial,trivial,trivial⟩
 replace h:=ite_f Bool.false_ne_true h
 try cbv
 refine seq_go ?_
 try cbv
 replace h:=bO0_inv h
 obtain⟨hr,h⟩:=h
 refine call_go rfl rfl ?_
 try cbv
 refine call_with hM hI [] (T43 _ hr) rfl (by simp) trivial trivial (by simp) ?_
 clear hr
 try cbv
 refine seq_go ?_
 try cbv
 refine seq_go ?_
 try cbv
 refine loop_invG (T:=Nat×Int×List PRow×List D) [.treeC (.loc 160) 0 true 3] [] [0,2,3,4,5] [.loc 96,.loc 97,.loc 160,.loc 288] 320 (fun t=>⟨[(0,.v (.d (.list true 9 l1))),(2,.v (.d (.bool false))),(3,.v (.c (.ptr (.loc 96) 0))),(4,.v (.c (.ptr (.loc 160) 0))),(5,.v (.d (.int .i64 t.2.1)))],[(.loc 96,.cells [.ow (.loc 97)]),(.loc 97,.pmap 3 6 8 t.2.2.1 none),(.loc 160,.cells [.ow (.loc 288)]),(.loc 288,.tree .row true 3 t.2.2.2 none)],320⟩)
   (fun t=>t.1≤n∧L7_1 t.1 l1 t.2.1 t.2.2.1 t.2.2.2=some r1) (fun t=>t.1) (n,((0:Int),([]:List PRow),([]:List D))) ⟨Nat.le_refl _,h⟩ (by cbv) ?_
 clear h
 rintro⟨m1,z3,pm4,l5⟩ ⟨hm1,h⟩
 replace hm1:m1≤n:=hm1
 obtain _ | m1:=m1
 ·replace h:L7_1 0 l1 z3 pm4 l5=some r1:=h
  rw[L7_1]at h
  cases h
 replace h:L7_1 (m1+1) l1 z3 pm4 l5=some r1:=h
 rw[L7_1]at h
 try cbv
 refine seq_go ?_
 try cbv
 refine seq_join (T:=Nat×Bool) (fun t=>⟨[(0,.v (.d (.list true 9 l1))),(2,.v (.d (.bool false))),(3,.v (.c (.ptr (.loc 96) 0))),(4,.v (.c (.ptr (.loc 160) 0))),(5,.v (.d (.int .i64 z3))),(15,.v (.d (.bool t.2)))],[(.loc 96,.cells [.ow (.loc 97)]),(.loc 97,.pmap 3 6 8 pm4 none),(.loc 160,.cells [.ow (.loc 288)]),(.loc 288,.tree .row true 3 l5 none)],448⟩) (fun t=>t.1≤m1∧L7_2 t.1 l1 z3 pm4 l5 t.2=some r1) ?_ ?_
 ·try cbv
  replace h:=lenF_inv M h
  obtain⟨z6,hz,h⟩:=h
  refine⟨z6,hz,?_⟩
  clear hz
  try cbv
  refine splitL (fun e=>?_) (fun e=>?_)
  ·replace h:=ite_t e h
   clear e
   try cbv
   exact join_next (m1,true) [0,2,3,4,5,15] [.loc 96,.loc 97,.loc 160,.loc 288] 448 ⟨by omega,h⟩ (by cbv)
  replace h:=ite_f (Int.not_lt.2 e) h
  clear e
  try cbv
  exact join_next (m1,false) [0,2,3,4,5,15] [.loc 96,.loc 97,.loc 160,.loc 288] 448 ⟨by omega,h⟩ (by cbv)
 clear h
 rintro⟨m2,b7⟩ ⟨hm2,h⟩
 replace hm2:m2≤m1:=hm2
 obtain _ | m2:=m2
 ·replace h:L7_2 0 l1 z3 pm4 l5 b7=some r1:=h
  rw[L7_2]at h
  cases h
 replace h:L7_2 (m2+1) l1 z3 pm4 l5 b7=some r1:=h
 rw[L7_2]at h
 try cbv
 cases b7
 ·replace h:=ite_f Bool.false_ne_true h
  try cbv
  refine seq_go ?_
  try cbv
  obtain rfl:=Option.some.inj h
  refine fin_go ?_
  try cbv
  exact⟨[],rfl,rfl,trivial,trivial,trivial⟩
 replace h:=ite_t rfl h
 try cbv
 refine seq_go ?_
 try cbv
 refine seq_go ?_
 try cbv
 refine seq_join (T:=Nat×Bool×(List PRow)×List D) (fun t=>⟨[(0,.v (.d (.list true 9 l1))),(2,.v (.d (.bool false))),(3,.v (.c (.ptr (.loc 96) 0))),(4,.v (.c (.ptr (.loc 160) 0))),(5,.v (.d (.int .i64 z3))),(25,.v (.d (.bool t.2.1)))],[(.loc 96,.cells [.ow (.loc 97)]),(.loc 97,.pmap 3 6 8 t.2.2.1 none),(.loc 160,.cells [.ow (.loc 288)]),(.loc 288,.tree .row true 3 t.2.2.2 none)],704⟩) (fun t=>t.1≤m2∧L7_3 t.1 l1 z3 t.2.1 t.2.2.1 t.2.2.2=some r1) ?_ ?_
 ·try cbv
  replace h:=getF_inv h
  obtain⟨x8,hx8,h⟩:=h
  replace h:=ds_t61_inv h
  obtain⟨z9,z10,z11,z12,z13,s14,l15,z16,l17,rfl,h⟩:=h
  refine⟨_,hx8.1,hx8.2,?_⟩
  try cbv
  replace h:=bS_inv h
  rcases h with⟨p26,hr,h⟩ | ⟨p27,hr,h⟩
  ·replace h:=bO3_inv h
   obtain⟨b18,pm19,l20,hp,h⟩:=h
   obtain rfl:=Option.some.inj hp
   clear hp
   refine call_go rfl rfl ?_
   try cbv
   refine call_with hM hI [.loc 96,.loc 97,.loc 160,.loc 288] (T44x1 _ hr (fun r p n=>r= .v (.d (.bool b18))∧p=[.cells [.ow (.ext 1)],.pmap 3 6 8 pm19 none,.cells [.ow (.ext 3)],.tree .row true 3 l20 none]∧n=[]) ⟨rfl,rfl,rfl⟩:Trip _ _ _ _ _ (.v (.d (.bool b18))) [.cells [.ow (.ext 1)],.pmap 3 6 8 pm19 none,.cells [.ow (.ext 3)],.tree .row true 3 l20 none] []) rfl (by simp) ⟨rfl,⟨rfl,⟨rfl,⟨rfl,trivial⟩⟩⟩⟩ ⟨trivial,⟨trivial,⟨trivial,⟨trivial,trivial⟩⟩⟩⟩ (by simp) ?_
   clear hr
   try cbv
   replace h:=letB_inv h
   obtain⟨b21,hz,h⟩:=h
   refine⟨b21,not_eq' hz,?_⟩
   clear hz
   try cbv
   exact join_next (m2,(b21,pm19,l20)) [0,2,3,4,5,25] [.loc 96,.loc 97,.loc 160,.loc 288] 704 ⟨by omega,h⟩ (by cbv)
  replace h:=bO3_inv h
  obtain⟨b22,pm23,l24,hp,h⟩:=h
  obtain rfl:=Option.some.inj hp
  clear hp
  refine call_go rfl rfl ?_
  try cbv
  refine call_with hM hI [.loc 96,.loc 97,.loc 160,.loc 288] (T44x1 _ hr (fun r p n=>r= .v (.d (.bool b22))∧p=[.cells [.ow (.ext 1)],.pmap 3 6 8 pm23 none,.cells [.ow (.loc 0)],.gone]∧n=[.tree .row true 3 l24 none]) ⟨rfl,rfl,rfl⟩:Trip _ _ _ _ _ (.v (.d (.bool b22))) [.cells [.ow (.ext 1)],.pmap 3 6 8 pm23 none,.cells [.ow (.loc 0)],.gone] [.tree .row true 3 l24 none]) rfl (by simp) ⟨rfl,⟨rfl,⟨rfl,⟨rfl,trivial⟩⟩⟩⟩ ⟨trivial,⟨trivial,⟨trivial,⟨trivial,trivial⟩⟩⟩⟩ (by simp) ?_
  clear hr
  try cbv
  replace h:=letB_inv h
  obtain⟨b25,hz,h⟩:=h
  refine⟨b25,not_eq' hz,?_⟩
  clear hz
  try cbv
  refine join_nextG (m2,(b25,pm23,l24)) [] [(640,288)] [0,2,3,4,5,25] [.loc 96,.loc 97,.loc 160,.loc 640] 704 ⟨by omega,h⟩ ?_
  try cbv
  first | done | exact rfl | cbv
 clear h
 rintro⟨m3,b28,pm29,l30⟩ ⟨hm3,h⟩
 replace hm3:m3≤m2:=hm3
 obtain _ | m3:=m3
 ·replace h:L7_3 0 l1 z3 b28 pm29 l30=some r1:=h
  rw[L7_3]at h
  cases h
 replace h:L7_3 (m3+1) l1 z3 b28 pm29 l30=some r1:=h
 rw[L7_3]at h
 try cbv
 cases b28
 rotate_left
 ·replace h:=ite_t rfl h
  try cbv
  refine seq_go ?_
  try cbv
  obtain rfl:=Option.some.inj h
  refine fin_go ?_
  try cbv
  exact⟨[],rfl,rfl,trivial,trivial,trivial⟩
 replace h:=ite_f Bool.false_ne_true h
 try cbv
 refine seq_go ?_
 try cbv
 refine loop_invG (T:=Nat×Int×List PRow×List D) [] [] [0,2,3,4,5,6] [.loc 96,.loc 97,.loc 160,.loc 288] 736 (fun t=>⟨[(0,.v (.d (.list true 9 l1))),(2,.v (.d (.bool false))),(3,.v (.c (.ptr (.loc 96) 0))),(4,.v (.c (.ptr (.loc 160) 0))),(5,.v (.d (.int .i64 z3))),(6,.v (.d (.int .i64 t.2.1)))],[(.loc 96,.cells [.ow (.loc 97)]),(.loc 97,.pmap 3 6 8 t.2.2.1 none),(.loc 160,.cells [.ow (.loc 288)]),(.loc 288,.tree .row true 3 t.2.2.2 none)],736⟩)
   (fun t=>t.1≤m3∧L7_4 t.1 l1 z3 t.2.1 t.2.2.1 t.2.2.2=some r1) (fun t=>t.1) (m3,((0:Int),pm29,l30)) ⟨Nat.le_refl _,h⟩ (by cbv) ?_
 clear h
 rintro⟨m4,z31,pm32,l33⟩ ⟨hm4,h⟩
 replace hm4:m4≤m3:=hm4
 obtain _ | m4:=m4
 ·replace h:L7_4 0 l1 z3 z31 pm32 l33=some r1:=h
  rw[L7_4]at h
  cases h
 replace h:L7_4 (m4+1) l1 z3 z31 pm32 l33=some r1:=h
 rw[L7_4]at h
 try cbv
 refine seq_go ?_
 try cbv
 refine seq_join (T:=Nat×Bool) (fun t=>⟨[(0,.v (.d (.list true 9 l1))),(2,.v (.d (.bool false))),(3,.v (.c (.ptr (.loc 96) 0))),(4,.v (.c (.ptr (.loc 160) 0))),(5,.v (.d (.int .i64 z3))),(6,.v (.d (.int .i64 z31))),(28,.v (.d (.bool t.2)))],[(.loc 96,.cells [.ow (.loc 97)]),(.loc 97,.pmap 3 6 8 pm32 none),(.loc 160,.cells [.ow (.loc 288)]),(.loc 288,.tree .row true 3 l33 none)],832⟩) (fun t=>t.1≤m4∧L7_5 t.1 l1 z3 z31 pm32 l33 t.2=some r1) ?_ ?_
 ·try cbv
  refine splitLe (fun e=>?_) (fun e=>?_)
  ·replace h:=ite_t e h
   clear e
   try cbv
   exact join_next (m4,true) [0,2,3,4,5,6,28] [.loc 96,.loc 97,.loc 160,.loc 288] 832 ⟨by omega,h⟩ (by cbv)
  replace h:=ite_f (Int.not_le.2 e) h
  clear e
  try cbv
  exact join_next (m4,false) [0,2,3,4,5,6,28] [.loc 96,.loc 97,.loc 160,.loc 288] 832 ⟨by omega,h⟩ (by cbv)
 clear h
 rintro⟨m5,b34⟩ ⟨hm5,h⟩
 replace hm5:m5≤m4:=hm5
 obtain _ | m5:=m5
 ·replace h:L7_5 0 l1 z3 z31 pm32 l33 b34=some r1:=h
  rw[L7_5]at h
  cases h
 replace h:L7_5 (m5+1) l1 z3 z31 pm32 l33 b34=some r1:=h
 rw[L7_5]at h
 try cbv
 cases b34
 ·replace h:=ite_f Bool.false_ne_true h
  try cbv
  replace h:=letF_inv h
  obtain⟨z59,hz,h⟩:=h
  refine⟨z59,hz,?_⟩
  clear hz
  try cbv
  refine loop_nextG (m5,(z59,pm32,l33)) [] [] [0,2,3,4,5] [.loc 96,.loc 97,.loc 160,.loc 288] 320 ⟨by omega,h⟩ (Nat.lt_succ_of_le (by omega)) ?_
  try cbv
 replace h:=ite_t rfl h
 try cbv
 refine seq_go ?_
 try cbv
 refine seq_join (T:=Nat×Bool×(List PRow)×List D) (fun t=>⟨[(0,.v (.d (.list true 9 l1))),(2,.v (.d (.bool false))),(3,.v (.c (.ptr (.loc 96) 0))),(4,.v (.c (.ptr (.loc 160) 0))),(5,.v (.d (.int .i64 z3))),(6,.v (.d (.int .i64 z31))),(62,.v (.d (.bool t.2.1)))],[(.loc 96,.cells [.ow (.loc 97)]),(.loc 97,.pmap 3 6 8 t.2.2.1 none),(.loc 160,.cells [.ow (.loc 288)]),(.loc 288,.tree .row true 3 t.2.2.2 none)],1856⟩) (fun t=>t.1≤m5∧L7_6 t.1 l1 z3 z31 t.2.1 t.2.2.1 t.2.2.2=some r1) ?_ ?_
 rotate_left
 ·clear h
  rintro⟨m6,b55,pm56,l57⟩ ⟨hm6,h⟩
  replace hm6:m6≤m5:=hm6
  obtain _ | m6:=m6
  ·replace h:L7_6 0 l1 z3 z31 b55 pm56 l57=some r1:=h
   rw[L7_6]at h
   cases h
  replace h:L7_6 (m6+1) l1 z3 z31 b55 pm56 l57=some r1:=h
  rw[L7_6]at h
  try cbv
  cases b55
  ·replace h:=ite_f Bool.false_ne_true h
   try cbv
   replace h:=letF_inv h
   obtain⟨z58,hz,h⟩:=h
   refine⟨z58,hz,?_⟩
   clear hz
   try cbv
   refine loop_nextG (m6,(z58,pm56,l57)) [] [] [0,2,3,4,5,6] [.loc 96,.loc 97,.loc 160,.loc 288] 736 ⟨by omega,h⟩ (Nat.lt_succ_of_le (by omega)) ?_
   try cbv
  replace h:=ite_t rfl h
  try cbv
  refine seq_go ?_
  try cbv
  obtain rfl:=Option.some.inj h
  refine fin_go ?_
  try cbv
  exact⟨[],rfl,rfl,trivial,trivial,trivial⟩
 try cbv
 replace h:=getF_inv h
 obtain⟨x35,hx35,h⟩:=h
 replace h:=ds_t61_inv h
 obtain⟨z36,z37,z38,z39,z40,s41,l42,z43,l44,rfl,h⟩:=h
 refine⟨_,hx35.1,hx35.2,?_⟩
 try cbv
 replace h:=bO2_inv h
 obtain⟨b45,pm46,hr,h⟩:=h
 first | refine .inr (.inr ⟨[.loc 96],?_⟩) | refine .inr ⟨[.loc 96],?_⟩
 try cbv
 refine call_with hM hI [.loc 96,.loc 97] (T40 _ hr) rfl (by simp) ⟨rfl,⟨rfl,trivial⟩⟩ ⟨trivial,⟨trivial,trivial⟩⟩ (by simp) ?_
 try cbv
 first | refine⟨(rfl:(_:Option AObj)=_),?_⟩ | skip
 try cbv
 clear hr
 try cbv
 refine⟨_,hx35.1,hx35.2,?_⟩
 try cbv
 replace h:=bO2_inv h
 obtain⟨b47,l48,hr,h⟩:=h
 first | refine .inr (.inr ⟨[.loc 160],?_⟩) | refine .inr ⟨[.loc 160],?_⟩
 try cbv
 refine call_with hM hI [.loc 160,.loc 288] (T45x1 _ hr) rfl (by simp) ⟨rfl,⟨rfl,trivial⟩⟩ ⟨trivial,⟨trivial,trivial⟩⟩ (by simp) ?_
 try cbv
 first | refine⟨(rfl:(_:Option AObj)=_),?_⟩ | skip
 try cbv
 clear hr
 try cbv
 replace h:=letB_inv h
 obtain⟨b49,hz,h⟩:=h
 refine⟨b49,eqv_ne hz,?_⟩
 clear hz
 try cbv
 cases b49
 rotate_left
 ·replace h:=ite_t rfl h
  try cbv
  refine drawn ?_ ?_
  ·show _=true
   kernel_rfl
  try cbv
  exact join_next (m5,(true,pm46,l48)) [0,2,3,4,5,6,62] [.loc 96,.loc 97,.loc 160,.loc 288] 1856 ⟨by omega,h⟩ (by cbv)
 replace h:=ite_f Bool.false_ne_true h
 try cbv
 refine⟨_,hx35.1,hx35.2,?_⟩
 try cbv
 replace h:=bO2_inv h
 obtain⟨b50,pm51,hr,h⟩:=h
 first | refine .inr (.inr ⟨[.loc 96],?_⟩) | refine .inr ⟨[.loc 96],?_⟩
 try cbv
 refine call_with hM hI [.loc 96,.loc 97] (T41 _ hr) rfl (by simp) ⟨rfl,⟨rfl,trivial⟩⟩ ⟨trivial,⟨trivial,trivial⟩⟩ (by simp) ?_
 try cbv
 first | refine⟨(rfl:(_:Option AObj)=_),?_⟩ | skip
 try cbv
 clear hr
 try cbv
 refine⟨_,hx35.1,hx35.2,?_⟩
 try cbv
 replace h:=bO2_inv h
 obtain⟨b52,l53,hr,h⟩:=h
 first | refine .inr (.inr ⟨[.loc 160],?_⟩) | refine .inr ⟨[.loc 160],?_⟩
 try cbv
 refine call_with hM hI [.loc 160,.loc 288] (T46x1 _ hr) rfl (by simp) ⟨rfl,⟨rfl,trivial⟩⟩ ⟨trivial,⟨trivial,trivial⟩⟩ (by simp) ?_
 try cbv
 first | refine⟨(rfl:(_:Option AObj)=_),?_⟩ | skip
 try cbv
 clear hr
 try cbv
 replace h:=letB_inv h
 obtain⟨b54,hz,h⟩:=h
 refine⟨b54,eqv_ne hz,?_⟩
 clear hz
 try cbv
 refine drawn ?_ ?_
 ·show _=true
  kernel_rfl
 try cbv
 exact join_next (m5,(b54,pm51,l53)) [0,2,3,4,5,6,62] [.loc 96,.loc 97,.loc 160,.loc 288] 1856 ⟨by omega,h⟩ (by cbv)
end Go.Proofs.Ytiiojajgajnhpaa
end
namespace Go.AM
open Go Go.RowKit Go.ChangeShapes Go.WideShapes
def Shapes (ti:Types):List TypeId→List D→Prop
 | [],[]=>True
 | t::ts,x::xs=>Shape ti t x.cells∧(∀y,ti t=some y→x.isAgg=rowD y.desc)∧Shapes ti ts xs
 | _,_=>False
theorem Shapes.length {ti:Types}:∀{ts:List TypeId}{xs:List D},Shapes ti ts xs→xs.length=ts.length
 | [],[],_=>rfl
 | _::_,_::_,h=>by simp[Shapes.length h.2.2]
 | [],_::_,h=>h.elim
 | _::_,[],h=>h.elim
section
variable {H:Type}{enc:TypeId×Value→H}{P:Program}{ti:Types}{T:List TypeId}{w:World}
theorem conv_arg (hti:TIok P ti) (hT:plainB ti T=true) {Z:Zone}(hZ:∀b o,¬Z b o) {base base':Nat}{spare:Nat→Bool}{held:Bool}{r:Reach}{t:TypeId}{v:Value}{d:DataW H}{ps:List MemPlace}(ht:t∈T)
  (hok:Value.okWide P w r base' t v) (h:DataW.Trod enc P w base spare held t v d ps):∃x:D,Shape ti t x.cells∧(∀y,ti t=some y→x.isAgg=rowD y.desc)∧RelD w Z x v:=by
 obtain⟨fuel,h⟩:=h
 obtain⟨ds,hs,h1,h2,h3⟩:=conv hti hT (Z:=Z) hZ fuel t _ _ _ ht h
 have hp:=List.all_eq_true.1 hT t ht
 split at hp
 ·rename_i y hy
  have hu:=(hti t y hy).1
  have single:rowD y.desc=false→v.cells.toList=[v]→∃x:D,Shape ti t x.cells∧(∀y,ti t=some y→x.isAgg=rowD y.desc)∧RelD w Z x v:=by
   intro hr hv
   rw[hv]at h1 h3
   obtain⟨c,rfl⟩:=List.length_eq_one_iff.1 h1
   have hc:=h2 c (by simp)
   have e:c.cells=[c]:=by cases c<;>first | rfl | simp[D.isAgg]at hc
   refine⟨c,by rw[e];exact hs,fun y' hy'=>?_,h3 0 c v rfl rfl⟩
   rw[hy]at hy'
   obtain rfl:y=y':=by simpa using hy'
   rw[hc,hr]
  split at hp
  ·rename_i hd
   rw[hd]at hu
   obtain⟨b,rfl⟩:=okWide_bool hu hok
   exact single (by rw[hd];rfl) rfl
  ·rename_i k hd
   rw[hd]at hu
   obtain⟨b,rfl⟩:=okWide_int hu hok
   exact single (by rw[hd];rfl) rfl
  ·rename_i hd
   rw[hd]at hu
   obtain⟨b,rfl⟩:=okWide_string hu hok
   exact single (by rw[hd];rfl) rfl
  ·rename_i e hd
   rw[hd]at hu
   obtain⟨a,l,c,rfl⟩:=okWide_slice hu hok
   exact single (by rw[hd];rfl) rfl
  ·rename_i fs hd
   rw[hd]at hu
   obtain⟨cs,rfl,_⟩:=okWide_struct hu hok
   refine⟨.agg ds,hs,fun y' hy'=>?_,.agg ds cs (by simpa [Value.cells] using h1.symm) h2 (fun j c u hc hu'=>h3 j c u hc (by simpa [Value.cells] using hu'))⟩
   rw[hy]at hy'
   obtain rfl:y=y':=by simpa using hy'
   rw[hd];rfl
  ·simp at hp
 ·simp at hp
theorem conv_args (hti:TIok P ti) (hT:plainB ti T=true) {Z:Zone}(hZ:∀b o,¬Z b o) {base base':Nat}{spare:Nat→Bool}{held:Bool}{r:Reach}:
  ∀(ts:List TypeId) (vs:List Value) (ds:List (DataW H)) (ps:List MemPlace),(∀t∈ts,t∈T)→DataW.TrodAll enc P w base spare held ts vs ds ps→
   (∀(j:Nat) t v,ts[j]?=some t→vs[j]?=some v→Value.okWide P w r base' t v)→
   ∃xs,Shapes ti ts xs∧∀(j:Nat) x v,xs[j]?=some x→vs[j]?=some v→RelD w Z x v
 | [],vs,ds,ps,_,h,_=>⟨[],trivial,by simp⟩
 | t::ts,vs,ds,ps,ht,h,hok=>by
  obtain⟨v,vs1,d,ds1,a,b,rfl,rfl,rfl,h1,h2⟩:=trodAll_cons h
  obtain⟨x,k1,k2,k3⟩:=conv_arg hti hT hZ (ht t (by simp)) (hok 0 t v rfl rfl) h1
  obtain⟨xs,k4,k5⟩:=conv_args hti hT hZ ts vs1 ds1 b (fun t ht'=>ht t (by simp[ht'])) h2 (fun j t v h1 h2=>hok (j+1) t v (by simpa using h1) (by simpa using h2))
  refine⟨x::xs,⟨k1,k2,k4⟩,fun j x' v' hx hv=>?_⟩
  match j with
  | 0=>simp at hx hv;subst hx;subst hv;exact k3
  | j+1=>simp at hx hv;exact k5 j x' v' hx hv
theorem again_all (hl:laidOutB P=true) {W W':World}(hb:Below W.heap.size W W'):∀(ts:List TypeId) (vs:List Value) (ds:List (DataW H)) (ps:List MemPlace),
  (∀t∈ts,P.readableRec t=true∧t<P.types.size)→DataW.TrodAll enc P W 0 (fun _=>true) true ts vs ds ps→(∀x∈ps,x.block<W.heap.size)→
  DataW.TrodAll enc P W' 0 (fun b=>decide (b<W.heap.size)) true ts vs ds ps
 | [],vs,ds,ps,_,h,_=>by
  obtain⟨rfl,rfl,rfl⟩:=trodAll_nil h
  exact rfl
 | t::ts,vs,ds,ps,ht,h,hlt=>by
  obtain⟨v,vs1,d,ds1,a,b,rfl,rfl,rfl,h1,h2⟩:=trodAll_cons h
  have ht1:=ht t (by simp)
  exact⟨a,b,Below.trod hl ht1.1 ht1.2 h1 hb (fun x hx=>hlt x (by simp[hx])),again_all hl hb ts vs1 ds1 b (fun t ht'=>ht t (by simp[ht'])) h2 (fun x hx=>hlt x (by simp[hx])),rfl⟩
theorem law_calls {I:Inv}(hti:TIok P ti) (hT:plainB ti T=true) {s:ChangeSpec}{fn:Func}{f:FuncId}{ts:List TypeId}{bt:TypeId}
  (hp:fn.params.toList=ts) (hv:s.vars=[]) (hr:fn.resultTypes=#[bt]) (hb:P.underlying bt=some .bool) (htT:∀t∈ts,t∈T)
  (hs:∀ds:List (DataW H),ds.length=ts.length→(s.fn H ds).results=[.lit (.bool true)]∧(s.fn H ds).args=ds∧(s.fn H ds).vars=[])
  (hl:laidOutB P=true) (hrec:∀t∈ts,P.readableRec t=true∧t<P.types.size)
  (hc:∀xs:List D,Shapes ti ts xs→Trip P I f (xs.map V1.d) [] (.v (.d (.bool true))) [] [])
  {W:World} {base:Nat} {args:Array Value} {ds gs:List (DataW H)} {before:List MemPlace}
  (hI:I.at W fun _ _=>False) (hval:∀(j:Nat) t v,fn.params[j]?=some t→args[j]?=some v→Value.okWide P W .any base t v)
  (hW:DataW.Whole enc P fn.params.toList s.vars false W args.toList ds gs before):
  Calls P f args W fun e W'=>∃v,e= .returned v∧s.post enc P fn false true false false W args v W':=by
 have hW':=hW
 obtain⟨p,q,hA,hV,rfl,_,_⟩:=hW
 rw[hv]at hV
 obtain⟨rfl,rfl⟩:gs=[]∧q=[]:=by
  cases gs with
  | nil=>exact⟨rfl,hV⟩
  | cons _ _=>exact hV.elim
 rw[hp]at hA
 obtain⟨hlen,hdl⟩:=trodAll_length hA
 obtain⟨xs,hsh,hrel⟩:=conv_args hti hT (Z:=fun _ _=>False) (fun _ _ h=>h) (r:=.any) (base':=base) ts args.toList ds p htT hA (fun j t v h1 h2=>hval j t v (by
  rw[←Array.getElem?_toList,hp];exact h1) (by simpa using h2))
 have hxl:=hsh.length
 have hcall:=hc xs hsh
 have hheap:∀i o,heapOf [] i=some o→False:=by
  intro i o h
  cases i<;>simp[heapOf]at h
 have hzone:∀(g:Ghost) b o,¬zone g (heapOf []) b o:=by
  rintro g b o ⟨i,ob,h,_⟩
  exact hheap i ob h
 refine (hcall.calls (w:=W) (X:=fun _ _=>False) (g:=fun _=>undef) (vals:=args) (fun _ _ h=>h.elim) (hI.mono fun b o hz=>hz.elim (hzone _ b o) id) ⟨fun i o h=>(hheap i o h).elim,fun i _ _ _ _ h=>(hheap i _ h).elim,fun i _ _ _ h=>(hheap i _ h).elim⟩ (fun _=>rfl)
  (by simp at hlen;simp;omega) (fun j x v hx hvv=>?_)).mono ?_
 ·simp only[List.getElem?_map,Option.map_eq_some_iff]at hx
  obtain⟨d,hd,rfl⟩:=hx
  exact (hrel j d v hd (by simpa using hvv)).mono (fun b o u hu _=>⟨hu,fun hz=>hz.elim (hzone _ b o) id⟩)
 ·rintro e W' ⟨v,g',rfl,hpost⟩
  obtain rfl:v= .bool true:=by cases (show RelD _ _ (.bool true) v from hpost.res);rfl
  have hbel:Below W.heap.size W W':=⟨hpost.frame.os,hpost.frame.tape,hpost.frame.output,hpost.frame.size,fun k hk=>hpost.frame.block k hk (fun o=>hzone _ k o)⟩
  obtain⟨s1,s2,s3⟩:=hs (ds++[]) (by simp[hdl])
  refine⟨_,rfl,ds,[],p++[],[],p,[],hW',?_,?_,?_,hbel.frame _,fun h=>by cases h⟩
  ·rw[s1,hr]
   exact trodAll_mk1 (shut_bool hb true)
  ·rw[s2,hp,List.append_nil]
   exact again_all hl hbel ts args.toList ds p hrec hA (fun x hx=>hW'.lt x (by simp[hx]))
  ·rw[s3,hv];rfl
end
end Go.AM
set_option linter.unusedVariables false
noncomputable section
namespace Go.Proofs.Ytiiojajgajnhpaa
open Go Go.AM
theorem play_loop {l:List D}(hl:ListS tab 61 l) (hn:l.length≤100) (hvs:∀(j:Nat) (a:QA),l[j]?=some a.row→VS a.v):
  ∀i:Nat,i≤l.length→∀(pm:List PRow) (S:List Ch),QOK pm S→S.length≤i→Ev (fun n=>L7_1 n l (i:Int) pm (DL S)) true:=by
 refine down l.length ?_ ?_
 ·intro pm S h hS
  refine .succ ?_
  simp only[L7_1,lenF,Int.lt_irrefl,if_false]
  exact .succ (by simp only[L7_2,Bool.false_eq_true,if_false];exact .ret)
 ·intro i hi ih pm S h hS
  obtain⟨x,hx,_,hr⟩:=hl.get hi
  obtain⟨a,rfl,ha⟩:=actQ hr
  have inner:∀(S':List Ch),S'.length≤i+1→∀j:Nat,j≤i+1→∀pm',QOK pm' S'→Ev (fun n=>L7_4 n l (i:Int) (j:Int) pm' (DL S')) true:=by
   intro S' hS'
   refine down (i+1) ?_ ?_
   ·intro pm' h'
    refine .succ ?_
    simp only[L7_4,if_neg (show ¬((i+1:Nat):Int)≤(i:Int)by omega)]
    refine .succ ?_
    simp only[L7_5,Bool.false_eq_true,if_false,letF,wrap_succ hi hl.1]
    exact ih pm' S' h' hS'
   ·intro j hj ihj pm' h'
    have hj':j<l.length:=by omega
    obtain⟨y,hy,_,hr'⟩:=hl.get hj'
    obtain⟨b,rfl,hb⟩:=actQ hr'
    obtain⟨p2,e2,k2⟩:=evFull h' b.id
    obtain⟨p3,e3,k3⟩:=evEmpty k2 b.id
    refine .succ ?_
    simp only[L7_4,if_pos (show (j:Int)≤(i:Int)by omega)]
    refine .succ ?_
    simp only[L7_5,if_true,getF_nat hy,dsq]
    refine Ev.bO2 e2 (Ev.bO2 (ev45 (Fits.of h') (by omega) b.id) ?_)
    simp only[letB,beq_self_eq_true,Bool.not_true,Bool.false_eq_true,if_false]
    refine Ev.bO2 e3 (Ev.bO2 (ev46 (by omega) b.id) ?_)
    simp only[beq_self_eq_true,Bool.not_true]
    refine .succ ?_
    simp only[L7_6,Bool.false_eq_true,if_false,letF,wrap_succ (show j<i+1 by omega) (show i+1≤maxLen by have:=hl.1;omega)]
    exact ihj p3 k3
  obtain⟨pm',S',h1,h2,h3⟩:=one_ev h (by omega) a (hvs i a hx)
  have go:Ev (fun n=>L7_3 n l (i:Int) false pm' (DL S')) true:=by
   refine .succ ?_
   simp only[L7_3,Bool.false_eq_true,if_false]
   exact inner S' (by omega) 0 (Nat.zero_le _) pm' h1
  refine .succ ?_
  simp only[L7_1,lenF,if_pos (ilt hi)]
  refine .succ ?_
  simp only[L7_2,if_true,getF_nat hx,dsq]
  rcases h3 with h3 | h3
  ·refine Ev.bSl h3 (Ev.bO3 .ret ?_)
   simp only[letB,Bool.not_true]
   exact go
  ·refine Ev.bSr h3 (Ev.bO3 .ret ?_)
   simp only[letB,Bool.not_true]
   exact go
theorem play_law {l:List D}(hl:ListS tab 61 l):Ev (fun n=>F7 n l) true:=by
 have f43:∀n,F43 n=some ():=fun n=>rfl
 obtain⟨b,b1,b2⟩:=great hl
 unfold F7
 refine Ev.bO1 b1 ?_
 cases b with
 | true=>simp only[if_true];exact .ret
 | false=>
  simp only[Bool.false_eq_true,if_false]
  obtain⟨g1,g2⟩:=b2 rfl
  exact Ev.bO0 (.of f43) (play_loop hl g1 g2 0 (Nat.zero_le _) [] [] trivial (Nat.zero_le _))
theorem queues_play_trip:∀xs:List D,Shapes tab [63] xs→Trip Try.prog inv 7 (xs.map V1.d) [] (.v (.d (.bool true))) [] []:=by
 intro xs h
 match xs,h with
 | [v],⟨v1,v2,_⟩=>
  obtain⟨l,rfl,hl⟩:=rs63 ⟨v1,v2⟩
  obtain⟨n,hn⟩:=(play_law hl).run
  exact T7 n hn
end Go.Proofs.Ytiiojajgajnhpaa
end
namespace Go.Proofs.Ytiiojajgajnhpaa
open Go Go.ChangeShapes Go.WideShapes Go.ChangeAt Go.RowKit Go.AM
theorem queues_play_reads:∀t∈[63],Try.prog.readableRec t=true∧t<Try.prog.types.size:=by
 have h:([63].all fun t=>Try.prog.readableRec t&&decide (t<Try.prog.types.size))=true:=by kernel_rfl
 intro t ht
 have:=List.all_eq_true.1 h t ht
 simpa using this
set_option maxRecDepth 100000 in
theorem queues_play_lifted (os:Os) (started:os.Started) (H:Type) (enc:TypeId×Value→H):
  ReturnsInHanded {} Try.checked os 7 .any (Rows.queuesPlaySpec.pre6 enc Try.prog Try.f7 Rows.queuesPlayRow.domain false) (Rows.queuesPlaySpec.post enc Try.prog Try.f7 false true false false):=by
 refine returnsInHanded_of_change (C:=Try.checked) (by kernel_rfl) started (by kernel_rfl) Try.func7
  (ChangeSpec.witness6 (enc:=enc) (C:=Try.checked) false ⟨#[],#[.slice none 0 0],[]⟩ 8 (by kernel_rfl) (by kernel_rfl) (by kernel_rfl) (by kernel_rfl)) ?_
 intro W base args ds gs before hval0 hW _ _
 refine law_calls (ti:=tab) (T:=[2,3,5,9,46,47,49,61,63]) tab_ok (by kernel_rfl) (ts:=[63]) (bt:=4) rfl rfl rfl (by kernel_rfl) (by decide) ?_ (by kernel_rfl) queues_play_reads queues_play_trip ⟨trivial,fun _ h=>h.elim⟩ hval0 hW
 intro ds h
 match ds,h with
 | [_],_=>exact⟨rfl,rfl,rfl⟩
theorem queues_play:Rows.QueuesPlaySaid:=
 OpenClaim.holds_of_wide 7 Try.f7 rfl rfl rfl rfl rfl rfl rfl ⟨rfl,rfl,rfl,rfl,rfl⟩ rfl rfl rfl rfl rfl (by kernel_rfl) Try.func7 (by kernel_rfl)
  (of_decide_eq_true (by kernel_rfl)) (by unfold Func.isWrapper;first | (rw[if_pos (by decide+kernel)];kernel_rfl) | (rw[if_neg (by decide+kernel)];exact⟨rfl,rfl⟩))
  (fun os started H enc _=>queues_play_lifted os started H enc)
end Go.Proofs.Ytiiojajgajnhpaa
