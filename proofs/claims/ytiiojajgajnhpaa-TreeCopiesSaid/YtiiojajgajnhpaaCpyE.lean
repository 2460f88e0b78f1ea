/- Part of a proof. No condition. (Part 5.) -/
import Derived.Test.YtiiojajgajnhpaaCpyD
set_option linter.unusedVariables false
set_option linter.unusedSimpArgs false
set_option maxRecDepth 100000
set_option maxHeartbeats 40000000
set_option linter.unusedVariables false
noncomputable section
namespace Go.Proofs.Ytiiojajgajnhpaa
open Go Go.AM
mutual
def L15_1:Nat→(List D)→Int→Int→Option (Bool)
 | 0,_,_,_=>none
 | n+1,l1,z2,z3=>
  lenF l1 fun z4=>(if z2<z4 then (if (0:Int)≤z3 then L15_2 n l1 z2 z3 true else L15_2 n l1 z2 z3 false)else L15_2 n l1 z2 z3 false)
def L15_2:Nat→(List D)→Int→Int→Bool→Option (Bool)
 | 0,_,_,_,_=>none
 | n+1,l1,z2,z3,b5=>
  (if b5=true then getF l1 z2 fun x6=>ds_t126 x6 fun z7 s8 l9 z10 s11 l12 l13 z14 z15 s16 s17 s18 l19 l20 z21 z22=>bO1 (F68 n s8 z3) fun z23=>bO1 (F69 n l9 z23) fun z24=>bO1 (F70 n z10 s11 l12 z24) fun z25=>bO1 (F71 n l13 z25) fun z26=>bO1 (F72 n z14 z15 s16 s17 s18 l19 l20 z21 z26) fun z27=>letF (IntKind.wrap .i64 (z2+1)) fun z28=>L15_1 n l1 z28 z27 else (if z3<(0:Int)then some true else some false))
end
def F15 (n:Nat) (l1:List D):Option (Bool):=
 L15_1 n l1 (0:Int) (20000:Int)
theorem T15 (n:Nat):∀⦃l1:List D⦄ ⦃r1:Bool⦄,F15 n l1=some r1→
    Trip Try.prog inv 15 [.d (.agg [.list true 16 l1])] [] (.v (.d (.bool r1))) [] []:=by
 intro l1 r1 h
 unfold F15 at h
 refine Trip.of tab_ok tab_one fol Try.func15 rfl (by kernel_rfl) rfl rfl rfl (fun M hM hI=>?_)
 try cbv
 refine seq_go ?_
 try cbv
 refine seq_go ?_
 try cbv
 refine seq_go ?_
 try cbv
 refine seq_go ?_
 try cbv
 refine loop_inv (T:=Nat×Int×Int) [1,2,3,4] [.loc 0,.loc 96] 192 (fun t=>⟨[(1,.v (.c (.ptr (.loc 0) 0))),(2,.v (.d (.bool false))),(3,.v (.c (.ptr (.loc 96) 0))),(4,.v (.d (.int .i64 t.2.1)))],[(.loc 0,.cells [.d (.list true 16 l1)]),(.loc 96,.cells [.d (.int .i64 t.2.2)])],192⟩)
   (fun t=>t.1≤n∧L15_1 t.1 l1 t.2.1 t.2.2=some r1) (fun t=>t.1) (n,((0:Int),(20000:Int))) ⟨Nat.le_refl _,h⟩ (by cbv) ?_
 clear h
 rintro⟨m1,z2,z3⟩ ⟨hm1,h⟩
 replace hm1:m1≤n:=hm1
 obtain _ | m1:=m1
 ·replace h:L15_1 0 l1 z2 z3=some r1:=h
  rw[L15_1]at h
  cases h
 replace h:L15_1 (m1+1) l1 z2 z3=some r1:=h
 rw[L15_1]at h
 try cbv
 refine seq_go ?_
 try cbv
 refine seq_join (T:=Nat×Bool) (fun t=>⟨[(1,.v (.c (.ptr (.loc 0) 0))),(2,.v (.d (.bool false))),(3,.v (.c (.ptr (.loc 96) 0))),(4,.v (.d (.int .i64 z2))),(19,.v (.d (.bool t.2)))],[(.loc 0,.cells [.d (.list true 16 l1)]),(.loc 96,.cells [.d (.int .i64 z3)])],576⟩) (fun t=>t.1≤m1∧L15_2 t.1 l1 z2 z3 t.2=some r1) ?_ ?_
 ·try cbv
  replace h:=lenF_inv M h
  obtain⟨z4,hz,h⟩:=h
  refine⟨z4,hz,?_⟩
  clear hz
  try cbv
  refine splitL (fun e=>?_) (fun e=>?_)
  ·replace h:=ite_t e h
   clear e
   try cbv
   refine splitLe (fun e=>?_) (fun e=>?_)
   ·replace h:=ite_t e h
    clear e
    try cbv
    exact join_next (m1,true) [1,2,3,4,19] [.loc 0,.loc 96] 576 ⟨by omega,h⟩ (by cbv)
   replace h:=ite_f (Int.not_le.2 e) h
   clear e
   try cbv
   exact join_next (m1,false) [1,2,3,4,19] [.loc 0,.loc 96] 576 ⟨by omega,h⟩ (by cbv)
  replace h:=ite_f (Int.not_lt.2 e) h
  clear e
  try cbv
  exact join_next (m1,false) [1,2,3,4,19] [.loc 0,.loc 96] 576 ⟨by omega,h⟩ (by cbv)
 clear h
 rintro⟨m2,b5⟩ ⟨hm2,h⟩
 replace hm2:m2≤m1:=hm2
 obtain _ | m2:=m2
 ·replace h:L15_2 0 l1 z2 z3 b5=some r1:=h
  rw[L15_2]at h
  cases h
 replace h:L15_2 (m2+1) l1 z2 z3 b5=some r1:=h
 rw[L15_2]at h
 try cbv
 cases b5
 ·replace h:=ite_f Bool.false_ne_true h
  try cbv
  refine seq_go ?_
  try cbv
  refine splitL (fun e=>?_) (fun e=>?_)
  ·replace h:=ite_t e h
   clear e
   try cbv
   obtain rfl:=Option.some.inj h
   refine fin_go ?_
   try cbv
   exact⟨[],rfl,rfl,trivial,trivial,trivial⟩
  replace h:=ite_f (Int.not_lt.2 e) h
  clear e
  try cbv
  obtain rfl:=Option.some.inj h
  refine fin_go ?_
  try cbv
  exact⟨[],rfl,rfl,trivial,trivial,trivial⟩
 replace h:=ite_t rfl h
 try cbv
 refine seq_go ?_
 try cbv
 refine seq_go ?_
 try cbv
 replace h:=getF_inv h
 obtain⟨x6,⟨hx0,hx⟩,h⟩:=h
 refine⟨x6,hx0,hx,?_⟩
 clear hx0 hx
 replace h:=ds_t126_inv h
 obtain⟨z7,s8,l9,z10,s11,l12,l13,z14,z15,s16,s17,s18,l19,l20,z21,z22,rfl,h⟩:=h
 try cbv
 refine seq_go ?_
 try cbv
 replace h:=bO1_inv h
 obtain⟨z23,hr,h⟩:=h
 refine call_go rfl rfl ?_
 try cbv
 refine call_with hM hI [.loc 96] (T68 _ hr) rfl (by simp) ⟨rfl,trivial⟩ ⟨trivial,trivial⟩ (by simp) ?_
 clear hr
 try cbv
 refine seq_go ?_
 try cbv
 replace h:=bO1_inv h
 obtain⟨z24,hr,h⟩:=h
 refine call_go rfl rfl ?_
 try cbv
 refine call_with hM hI [.loc 96] (T69 _ hr) rfl (by simp) ⟨rfl,trivial⟩ ⟨trivial,trivial⟩ (by simp) ?_
 clear hr
 try cbv
 refine seq_go ?_
 try cbv
 replace h:=bO1_inv h
 obtain⟨z25,hr,h⟩:=h
 refine call_go rfl rfl ?_
 try cbv
 refine call_with hM hI [.loc 96] (T70 _ hr) rfl (by simp) ⟨rfl,trivial⟩ ⟨trivial,trivial⟩ (by simp) ?_
 clear hr
 try cbv
 refine seq_go ?_
 try cbv
 replace h:=bO1_inv h
 obtain⟨z26,hr,h⟩:=h
 refine call_go rfl rfl ?_
 try cbv
 refine call_with hM hI [.loc 96] (T71 _ hr) rfl (by simp) ⟨rfl,trivial⟩ ⟨trivial,trivial⟩ (by simp) ?_
 clear hr
 try cbv
 replace h:=bO1_inv h
 obtain⟨z27,hr,h⟩:=h
 refine call_go rfl rfl ?_
 try cbv
 refine call_with hM hI [.loc 96] (T72 _ hr) rfl (by simp) ⟨rfl,trivial⟩ ⟨trivial,trivial⟩ (by simp) ?_
 clear hr
 try cbv
 replace h:=letF_inv h
 obtain⟨z28,hz,h⟩:=h
 refine⟨z28,hz,?_⟩
 clear hz
 try cbv
 exact loop_next (m2,(z28,z27)) [1,2,3,4] [.loc 0,.loc 96] 192 ⟨by omega,h⟩ (Nat.lt_succ_of_le (by omega)) (by cbv)
end Go.Proofs.Ytiiojajgajnhpaa
end
set_option linter.unusedVariables false
noncomputable section
namespace Go.Proofs.Ytiiojajgajnhpaa
open Go Go.AM
theorem iw {z:Int}(h1: -9223372036854775808≤z) (h2:z≤9223372036854775807):IntKind.i64.wrap z=z:=IntWalk.i64_in _ (by omega)
inductive SmT:List D→Prop where
 | mk {l:List D} (h:l.length≤4000) (hr:∀(a:Int) (s:ByteArray) (m:List D),D.agg [.int .u8 a,.str s,.list true 3 m]∈l→SmT m):SmT l
inductive SmE:List D→Prop where
 | mk {l:List D} (h:l.length≤4000) (h5:∀(a0 a1:Int) (a2 a3 a4:ByteArray) (a5 a6:List D) (a7:Int),D.agg [.int .u8 a0,.int .i64 a1,.str a2,.str a3,.str a4,.list false 1 a5,.list true 8 a6,.int .i64 a7]∈l→a5.length≤4000) (h6:∀(a0 a1:Int) (a2 a3 a4:ByteArray) (a5 a6:List D) (a7:Int),D.agg [.int .u8 a0,.int .i64 a1,.str a2,.str a3,.str a4,.list false 1 a5,.list true 8 a6,.int .i64 a7]∈l→SmE a6):SmE l
inductive SmS:List D→Prop where
 | mk {l:List D} (h:l.length≤4000) (h3:∀(a0:Int) (a1 a2:ByteArray) (a3:List D) (a4:Int) (a5:ByteArray) (a6:List D) (a7:Int) (a8:ByteArray) (a9 a10 a11 a12 a13:List D) (a14:Int),D.agg [.int .u8 a0,.str a1,.str a2,.list false 1 a3,.int .u8 a4,.str a5,.list true 3 a6,.int .i64 a7,.str a8,.list false 1 a9,.list true 8 a10,.list true 15 a11,.list true 15 a12,.list true 3 a13,.int .i64 a14]∈l→a3.length≤4000∧SmT a6∧a9.length≤4000∧SmE a10∧a13.length≤4000)
   (h11:∀(a0:Int) (a1 a2:ByteArray) (a3:List D) (a4:Int) (a5:ByteArray) (a6:List D) (a7:Int) (a8:ByteArray) (a9 a10 a11 a12 a13:List D) (a14:Int),D.agg [.int .u8 a0,.str a1,.str a2,.list false 1 a3,.int .u8 a4,.str a5,.list true 3 a6,.int .i64 a7,.str a8,.list false 1 a9,.list true 8 a10,.list true 15 a11,.list true 15 a12,.list true 3 a13,.int .i64 a14]∈l→SmS a11) (h12:∀(a0:Int) (a1 a2:ByteArray) (a3:List D) (a4:Int) (a5:ByteArray) (a6:List D) (a7:Int) (a8:ByteArray) (a9 a10 a11 a12 a13:List D) (a14:Int),D.agg [.int .u8 a0,.str a1,.str a2,.list false 1 a3,.int .u8 a4,.str a5,.list true 3 a6,.int .i64 a7,.str a8,.list false 1 a9,.list true 8 a10,.list true 15 a11,.list true 15 a12,.list true 3 a13,.int .i64 a14]∈l→SmS a12)
   (h13:∀(a0:Int) (a1 a2:ByteArray) (a3:List D) (a4:Int) (a5:ByteArray) (a6:List D) (a7:Int) (a8:ByteArray) (a9 a10 a11 a12 a13:List D) (a14:Int),D.agg [.int .u8 a0,.str a1,.str a2,.list false 1 a3,.int .u8 a4,.str a5,.list true 3 a6,.int .i64 a7,.str a8,.list false 1 a9,.list true 8 a10,.list true 15 a11,.list true 15 a12,.list true 3 a13,.int .i64 a14]∈l→∀(t1 t2:ByteArray) (m:List D),D.agg [.str t1,.str t2,.list true 15 m]∈a13→SmS m):SmS l
theorem room68 (s:ByteArray) (z:Int) (h1: -6≤z) (h2:z≤20000):∃r,Ev (fun n=>F68 n s z) r∧ -1≤r∧r≤20000∧(0≤r→r+5≤z):=by
 have sz:∀{γ:Type} (k:Int→Option γ),szF s k=k (s.size:Int):=fun k=>rfl
 by_cases h3:z<5
 ·exact⟨-1,.succ (.of fun n=>by unfold F68;rw[if_pos h3,L68_1,if_pos rfl]),by omega,by omega,by omega⟩
 ·have e:IntKind.i64.wrap (z - 5)=z - 5:=iw (by omega) (by omega)
  by_cases h4:z - 5<(s.size:Int)
  ·exact⟨-1,.succ (.of fun n=>by unfold F68;rw[if_neg h3,sz];simp only[letF];rw[e,if_pos h4,L68_1,if_pos rfl]),by omega,by omega,by omega⟩
  ·have e2:IntKind.i64.wrap (z - 5 - (s.size:Int))=z - 5 - (s.size:Int):=iw (by omega) (by omega)
   exact⟨z - 5 - (s.size:Int),.succ (.of fun n=>by unfold F68;rw[if_neg h3,sz];simp only[letF];rw[e,if_neg h4,L68_1,if_neg Bool.false_ne_true];simp only[letF];rw[sz,e,e2]),by omega,by omega,by omega⟩
theorem room120 {l:List D}(h:ListS tab 9 l) (z:Int) (h1: -1≤z) (h2:z≤20000):∃r,Ev (fun n=>F120 n l z) r∧ -6≤r∧r≤20000∧(0≤r→r≤z∧l.length≤4000):=by
 have main:∀i:Nat,i≤l.length→∀z,-6≤z→z≤20000→∃r,Ev (fun n=>L120_1 n l (i:Int) z) r∧ -6≤r∧r≤20000∧(0≤r→r+5*((l.length:Int) - (i:Int))≤z):=by
  refine down l.length ?_ ?_
  ·intro z h1 h2
   refine⟨z,.succ (.succ (.of fun n=>?_)),by omega,by omega,by omega⟩
   rw[L120_1];simp only[lenF];rw[if_neg (by omega),L120_2,if_neg Bool.false_ne_true]
  ·intro i hi ih z h1 h2
   by_cases hz:(0:Int)≤z
   ·obtain⟨x,hx,_,hr⟩:=h.get hi
    obtain⟨s,rfl,_⟩:=rs9 hr
    obtain⟨z1,g1,g2,g3,g4⟩:=room68 s z (by omega) h2
    obtain⟨r,k1,k2,k3,k4⟩:=ih z1 (by omega) (by omega)
    refine⟨r,.succ (.succ (Ev.congr (A:=fun n=>bO1 (F68 n s z) fun z10=>L120_1 n l ((i+1:Nat):Int) z10) (Ev.bO1 g1 k1) fun n=>?_)),k2,k3,by omega⟩
    rw[L120_1];simp only[lenF];rw[if_pos (by omega),if_pos hz,L120_2,if_pos rfl,getF_nat hx]
    simp only[ds_str,letF,wrap_succ hi h.1]
   ·refine⟨z,.succ (.succ (.of fun n=>?_)),by omega,by omega,by omega⟩
    rw[L120_1];simp only[lenF];rw[if_pos (by omega),if_neg hz,L120_2,if_neg Bool.false_ne_true]
 obtain⟨r,h,a,b,c⟩:=main 0 (Nat.zero_le _) (z - 5) (by omega) (by omega)
 exact⟨r,h.congr fun n=>by unfold F120;simp only[letF,iw (show -9223372036854775808≤z - 5 by omega) (by omega)];rfl,a,b,fun hr=>by have:=c hr;omega⟩
theorem room121 {l:List D}(h:ListS tab 9 l) (s:ByteArray) (z:Int) (h1: -6≤z) (h2:z≤20000):∃r,Ev (fun n=>F121 n s l z) r∧ -6≤r∧r≤20000∧(0≤r→r+5≤z∧l.length≤4000):=by
 obtain⟨y,g1,g2,g3,g4⟩:=room68 s z h1 h2
 obtain⟨r,k1,k2,k3,k4⟩:=room120 h y g2 g3
 exact⟨r,Ev.bO1 g1 (Ev.bO1 k1 .ret),k2,k3,fun hr=>by have:=k4 hr;omega⟩
theorem room_ty (l:List D):ListS tab 27 l→∀z1 s2 z,-6≤z→z≤20000→∃r,Ev (fun n=>F70 n z1 s2 l z) r∧ -6≤r∧r≤20000∧(0≤r→r+5≤z∧SmT l):=by
 refine list_ind (P:=fun l=>ListS tab 27 l→∀z1 s2 z,-6≤z→z≤20000→∃r,Ev (fun n=>F70 n z1 s2 l z) r∧ -6≤r∧r≤20000∧(0≤r→r+5≤z∧SmT l)) (fun l ih h=>?_) l
 have loop:∀i:Nat,i≤l.length→∀z,-6≤z→z≤20000→∃r,Ev (fun n=>L70_1 n l (i:Int) z) r∧ -6≤r∧r≤20000∧(0≤r→r+5*((l.length:Int) - (i:Int))≤z∧∀(j:Nat) (a:Int) (s:ByteArray) (m:List D),i≤j→l[j]?=some (.agg [.int .u8 a,.str s,.list true 3 m])→SmT m):=by
  refine down l.length ?_ ?_
  ·intro z h1 h2
   refine⟨z,.succ (.succ (.of fun n=>?_)),h1,h2,fun _=>⟨by omega,fun j a s m hj hx=>absurd (List.getElem?_eq_some_iff.1 hx).1 (by omega)⟩⟩
   rw[L70_1];simp only[lenF];rw[if_neg (by omega),L70_2,if_neg Bool.false_ne_true]
  ·intro i hi ihl z h1 h2
   by_cases hz:(0:Int)≤z
   ·obtain⟨x,hx,hm,hr⟩:=h.get hi
    obtain⟨a,s,m,rfl,_,hs,hm'⟩:=rs27 hr
    obtain⟨y,g1,g2,g3,g4⟩:=ih m (size_row (ag:=true) (sz:=3) hm (by simp)) hm' a s z h1 h2
    obtain⟨r,k1,k2,k3,k4⟩:=ihl y g2 g3
    refine⟨r,.succ (.succ (Ev.congr (A:=fun n=>bO1 (F70 n a s m z) fun z10=>L70_1 n l ((i+1:Nat):Int) z10) (Ev.bO1 g1 k1) fun n=>?_)),k2,k3,fun hr0=>?_⟩
    ·rw[L70_1];simp only[lenF];rw[if_pos (by omega),if_pos hz,L70_2,if_pos rfl,getF_nat hx]
     simp only[ds_t27,letF,wrap_succ hi h.1]
    ·obtain⟨x1,x2⟩:=k4 hr0
     obtain⟨x3,x4⟩:=g4 (by omega)
     refine⟨by omega,fun j a' s' m' hj hx'=>?_⟩
     by_cases e:j=i
     ·subst e;rw[hx]at hx';cases hx';exact x4
     ·exact x2 j a' s' m' (by omega) hx'
   ·refine⟨z,.succ (.succ (.of fun n=>?_)),h1,h2,by omega⟩
    rw[L70_1];simp only[lenF];rw[if_pos (by omega),if_neg hz,L70_2,if_neg Bool.false_ne_true]
 intro z1 s2 z h1 h2
 obtain⟨y,g1,g2,g3,g4⟩:=room68 s2 z h1 h2
 obtain⟨r,k1,k2,k3,k4⟩:=loop 0 (Nat.zero_le _) y (by omega) g3
 refine⟨r,.succ ((Ev.bO1 g1 k1).congr fun n=>by rw[F70];rfl),k2,k3,fun hr0=>?_⟩
 obtain⟨x1,x2⟩:=k4 hr0
 have:=g4 (by omega)
 refine⟨by omega,.mk (by omega) fun a s m hm=>?_⟩
 obtain⟨j,hj⟩:=List.getElem?_of_mem hm
 exact x2 j a s m (Nat.zero_le _) hj
theorem room_ex1 (l:List D):ListS tab 33 l→∀z1 z2 s3 s4 s5 l6 z8 z,ListS tab 9 l6→ -6≤z→z≤20000→∃r,Ev (fun n=>F72 n z1 z2 s3 s4 s5 l6 l z8 z) r∧ -6≤r∧r≤20000∧(0≤r→r+5≤z∧l6.length≤4000∧SmE l):=by
 refine list_ind (P:=fun l=>ListS tab 33 l→∀z1 z2 s3 s4 s5 l6 z8 z,ListS tab 9 l6→ -6≤z→z≤20000→∃r,Ev (fun n=>F72 n z1 z2 s3 s4 s5 l6 l z8 z) r∧ -6≤r∧r≤20000∧(0≤r→r+5≤z∧l6.length≤4000∧SmE l)) (fun l ih h=>?_) l
 have loop:∀i:Nat,i≤l.length→∀z,-6≤z→z≤20000→∃r,Ev (fun n=>L72_1 n l (i:Int) z) r∧ -6≤r∧r≤20000∧(0≤r→r+5*((l.length:Int) - (i:Int))≤z∧∀(j:Nat) (a0 a1:Int) (a2 a3 a4:ByteArray) (a5 a6:List D) (a7:Int),i≤j→l[j]?=some (.agg [.int .u8 a0,.int .i64 a1,.str a2,.str a3,.str a4,.list false 1 a5,.list true 8 a6,.int .i64 a7])→a5.length≤4000∧SmE a6):=by
  refine down l.length ?_ ?_
  ·intro z h1 h2
   refine⟨z,.succ (.succ (.of fun n=>?_)),h1,h2,fun _=>⟨by omega,fun j _ _ _ _ _ _ _ _ hj hx=>absurd (List.getElem?_eq_some_iff.1 hx).1 (by omega)⟩⟩
   rw[L72_1];simp only[lenF];rw[if_neg (by omega),L72_2,if_neg Bool.false_ne_true]
  ·intro i hi ihl z h1 h2
   by_cases hz:(0:Int)≤z
   ·obtain⟨x,hx,hm,hr⟩:=h.get hi
    obtain⟨b0,b1,b2,b3,b4,b5,b6,b7,rfl,w0,_,w2,w3,w4,w5,w6,_⟩:=rs33 hr
    obtain⟨y,g1,g2,g3,g4⟩:=ih b6 (size_row (ag:=true) (sz:=8) hm (by simp)) w6 b0 b1 b2 b3 b4 b5 b7 z w5 h1 h2
    obtain⟨r,k1,k2,k3,k4⟩:=ihl y g2 g3
    refine⟨r,.succ (.succ (Ev.congr (A:=fun n=>bO1 (F72 n b0 b1 b2 b3 b4 b5 b6 b7 z) fun z10=>L72_1 n l ((i+1:Nat):Int) z10) (Ev.bO1 g1 k1) fun n=>?_)),k2,k3,fun hr0=>?_⟩
    ·rw[L72_1];simp only[lenF];rw[if_pos (by omega),if_pos hz,L72_2,if_pos rfl,getF_nat hx]
     simp only[ds_t33,letF,wrap_succ hi h.1]
    ·obtain⟨x1,x2⟩:=k4 hr0
     obtain⟨x3,x4⟩:=g4 (by omega)
     refine⟨by omega,fun j _ _ _ _ _ _ _ _ hj hx'=>?_⟩
     by_cases e:j=i
     ·subst e;rw[hx]at hx';cases hx';exact x4
     ·exact x2 j _ _ _ _ _ _ _ _ (by omega) hx'
   ·refine⟨z,.succ (.succ (.of fun n=>?_)),h1,h2,by omega⟩
    rw[L72_1];simp only[lenF];rw[if_pos (by omega),if_neg hz,L72_2,if_neg Bool.false_ne_true]
 intro z1 z2 s3 s4 s5 l6 z8 z h6 h1 h2
 obtain⟨y1,g1,g2,g3,g4⟩:=room68 s3 z h1 h2
 obtain⟨y2,j1,j2,j3,j4⟩:=room68 s4 y1 (by omega) g3
 obtain⟨y3,i1,i2,i3,i4⟩:=room121 h6 s5 y2 (by omega) j3
 obtain⟨r,k1,k2,k3,k4⟩:=loop 0 (Nat.zero_le _) y3 i2 i3
 refine⟨r,.succ ((Ev.bO1 g1 (Ev.bO1 j1 (Ev.bO1 i1 k1))).congr fun n=>by rw[F72]),k2,k3,fun hr0=>?_⟩
 obtain⟨x1,x2⟩:=k4 hr0
 obtain⟨x3,x4⟩:=i4 (by omega)
 have:=j4 (by omega)
 have:=g4 (by omega)
 refine⟨by omega,x4,.mk (by omega) (fun a0 a1 a2 a3 a4 a5 a6 a7 hm=>?_) (fun a0 a1 a2 a3 a4 a5 a6 a7 hm=>?_)⟩
 ·obtain⟨j,hj⟩:=List.getElem?_of_mem hm
  exact (x2 j _ _ _ _ _ _ _ _ (Nat.zero_le _) hj).1
 ·obtain⟨j,hj⟩:=List.getElem?_of_mem hm
  exact (x2 j _ _ _ _ _ _ _ _ (Nat.zero_le _) hj).2
end Go.Proofs.Ytiiojajgajnhpaa
end
set_option linter.unusedVariables false
noncomputable section
namespace Go.Proofs.Ytiiojajgajnhpaa
open Go Go.AM
def stR (m:List D):Prop:=∀z:Int,-6≤z→z≤20000→∃r,Ev (fun n=>F71 n m z) r∧ -6≤r∧r≤20000∧(0≤r→r≤z∧SmS m)
theorem room_ex {l18:List D}(h:ListS tab 33 l18) (l1:List D) (z3:Int) (l19 l20 l21:List D):∀i:Nat,i≤l18.length→∀z:Int,-6≤z→z≤20000→∃r,-6≤r∧r≤20000∧(0≤r→r+5*((l18.length:Int) - (i:Int))≤z∧∀(j:Nat) (a0 a1:Int) (a2 a3 a4:ByteArray) (a5 a6:List D) (a7:Int),i≤j→l18[j]?=some (.agg [.int .u8 a0,.int .i64 a1,.str a2,.str a3,.str a4,.list false 1 a5,.list true 8 a6,.int .i64 a7])→a5.length≤4000∧SmE a6)∧
  ∀R,Ev (fun n=>if r<(0:Int)then L71_5 n l1 z3 l19 l20 l21 r true else L71_5 n l1 z3 l19 l20 l21 r false) R→Ev (fun n=>L71_3 n l1 z3 l18 l19 l20 l21 (i:Int) z) R:=by
 refine down l18.length ?_ ?_
 ·intro z h1 h2
  refine⟨z,h1,h2,fun _=>⟨by omega,fun j _ _ _ _ _ _ _ _ hj hx=>absurd (List.getElem?_eq_some_iff.1 hx).1 (by omega)⟩,fun R hR=>.succ ?_⟩
  simp only[L71_3,lenF,Int.lt_irrefl,if_false]
  exact .succ (by simp only[L71_4,Bool.false_eq_true,if_false];exact hR)
 ·intro i hi ih z h1 h2
  by_cases c:(0:Int)≤z
  ·obtain⟨x,hx,hm,hr⟩:=h.get hi
   obtain⟨b0,b1,b2,b3,b4,b5,b6,b7,rfl,w0,w1,w2,w3,w4,w5,w6,w7⟩:=rs33 hr
   obtain⟨y,y1,y2,y3,y4⟩:=room_ex1 b6 w6 b0 b1 b2 b3 b4 b5 b7 z w5 h1 h2
   obtain⟨r,r1,r2,r3,r4⟩:=ih y y2 y3
   refine⟨r,r1,r2,fun hr0=>?_,fun R hR=>.succ ?_⟩
   ·obtain⟨x1,x2⟩:=r3 hr0
    obtain⟨x3,x4⟩:=y4 (by omega)
    refine⟨by omega,fun j _ _ _ _ _ _ _ _ hj hx'=>?_⟩
    by_cases e:j=i
    ·subst e;rw[hx]at hx';cases hx';exact x4
    ·exact x2 j _ _ _ _ _ _ _ _ (by omega) hx'
   ·simp only[L71_3,lenF,if_pos (ilt hi),if_pos c]
    refine .succ ?_
    simp only[L71_4,if_true,getF_nat hx,ds_t33]
    refine Ev.bO1 y1 ?_
    simp only[letF,wrap_succ hi h.1]
    exact r4 R hR
  ·refine⟨z,h1,h2,fun h=>absurd h c,fun R hR=>.succ ?_⟩
   simp only[L71_3,lenF,if_pos (ilt hi),if_neg c]
   exact .succ (by simp only[L71_4,Bool.false_eq_true,if_false];exact hR)
theorem room_arm {l21:List D}(h:ListS tab 154 l21) (hin:∀(s1 s2:ByteArray) (m:List D),.agg [.str s1,.str s2,.list true 15 m]∈l21→stR m) (l1:List D) (z3:Int):∀i:Nat,i≤l21.length→∀z:Int,-6≤z→z≤20000→∃r,-6≤r∧r≤20000∧
  (0≤r→r+5*((l21.length:Int) - (i:Int))≤z∧∀j s1 s2 m,i≤j→l21[j]?=some (.agg [.str s1,.str s2,.list true 15 m])→SmS m)∧∀R,Ev (fun n=>L71_1 n l1 (IntKind.wrap .i64 (z3+1)) r) R→Ev (fun n=>L71_6 n l1 z3 l21 (i:Int) z) R:=by
 refine down l21.length ?_ ?_
 ·intro z h1 h2
  refine⟨z,h1,h2,fun _=>⟨by omega,fun j s1 s2 m hj hx=>absurd (List.getElem?_eq_some_iff.1 hx).1 (by omega)⟩,fun R hR=>.succ ?_⟩
  simp only[L71_6,lenF,Int.lt_irrefl,if_false]
  exact .succ (by simp only[L71_7,Bool.false_eq_true,if_false,letF];exact hR)
 ·intro i hi ih z h1 h2
  by_cases c:(0:Int)≤z
  ·obtain⟨x,hx,hm,hr⟩:=h.get hi
   obtain⟨t1,t2,m,rfl,w0,w1,w2⟩:=rs154 hr
   obtain⟨a,a1,a2,a3,a4⟩:=room68 t1 z h1 h2
   obtain⟨b,b1,b2,b3,b4⟩:=room68 t2 a (by omega) a3
   obtain⟨y,y1,y2,y3,y4⟩:=hin t1 t2 m hm b (by omega) b3
   obtain⟨r,r1,r2,r3,r4⟩:=ih y y2 y3
   refine⟨r,r1,r2,fun hr0=>?_,fun R hR=>.succ ?_⟩
   ·obtain⟨r5,r6⟩:=r3 hr0
    obtain⟨y5,y6⟩:=y4 (by omega)
    have:=b4 (by omega)
    have:=a4 (by omega)
    refine⟨by omega,fun j s1 s2 m' hj hx'=>?_⟩
    by_cases e:j=i
    ·subst e;rw[hx]at hx';cases hx';exact y6
    ·exact r6 j s1 s2 m' (by omega) hx'
   ·simp only[L71_6,lenF,if_pos (ilt hi),if_pos c]
    refine .succ ?_
    simp only[L71_7,if_true,getF_nat hx,ds_t154]
    refine Ev.bO1 a1 (Ev.bO1 b1 (Ev.bO1 y1 ?_))
    simp only[letF,wrap_succ hi h.1]
    exact r4 R hR
  ·refine⟨z,h1,h2,fun h=>absurd h c,fun R hR=>.succ ?_⟩
   simp only[L71_6,lenF,if_pos (ilt hi),if_neg c]
   exact .succ (by simp only[L71_7,Bool.false_eq_true,if_false,letF];exact hR)
structure Sh (a3 a6 a9 a10 a11 a12 a13:List D):Prop where
 n:a3.length≤4000
 t:SmT a6
 p:a9.length≤4000
 e:SmE a10
 b:SmS a11
 o:SmS a12
 k:a13.length≤4000
 m:∀(t1 t2:ByteArray) (m:List D),D.agg [.str t1,.str t2,.list true 15 m]∈a13→SmS m
theorem room_st (l:List D):ListS tab 152 l→stR l:=by
 refine list_ind (P:=fun l=>ListS tab 152 l→stR l) (fun l ih h=>?_) l
 have loop:∀i:Nat,i≤l.length→∀z:Int,-6≤z→z≤20000→∃r,Ev (fun n=>L71_1 n l (i:Int) z) r∧ -6≤r∧r≤20000∧(0≤r→r+5*((l.length:Int) - (i:Int))≤z∧∀(j:Nat) (a0:Int) (a1 a2:ByteArray) (a3:List D) (a4:Int) (a5:ByteArray) (a6:List D) (a7:Int) (a8:ByteArray) (a9 a10 a11 a12 a13:List D) (a14:Int),i≤j→l[j]?=some (.agg [.int .u8 a0,.str a1,.str a2,.list false 1 a3,.int .u8 a4,.str a5,.list true 3 a6,.int .i64 a7,.str a8,.list false 1 a9,.list true 8 a10,.list true 15 a11,.list true 15 a12,.list true 3 a13,.int .i64 a14])→Sh a3 a6 a9 a10 a11 a12 a13):=by
  refine down l.length ?_ ?_
  ·intro z h1 h2
   refine⟨z,.succ ?_,h1,h2,fun _=>⟨by omega,fun j _ _ _ _ _ _ _ _ _ _ _ _ _ _ _ hj hx=>absurd (List.getElem?_eq_some_iff.1 hx).1 (by omega)⟩⟩
   simp only[L71_1,lenF,Int.lt_irrefl,if_false]
   exact .succ (by simp only[L71_2,Bool.false_eq_true,if_false];exact .ret)
  ·intro i hi ihl z h1 h2
   by_cases c:(0:Int)≤z
   ·obtain⟨x,hx,hm,hr⟩:=h.get hi
    obtain⟨a0,a1,a2,a3,a4,a5,a6,a7,a8,a9,a10,a11,a12,a13,a14,rfl,w0,w1,w2,w3,w4,w5,w6,w7,w8,w9,w10,w11,w12,w13,w14⟩:=rs152 hr
    obtain⟨p1,p2,p3,p4,p5⟩:=room68 a1 z h1 h2
    obtain⟨q1,q2,q3,q4,q5⟩:=room68 a2 p1 (by omega) p4
    obtain⟨t1,t2,t3,t4,t5⟩:=room120 w3 q1 (by omega) q4
    obtain⟨u1,u2,u3,u4,u5⟩:=room_ty a6 w6 a4 a5 t1 t3 t4
    obtain⟨v1,v2,v3,v4,v5⟩:=room121 w9 a8 u1 u3 u4
    obtain⟨e1,e2,e3,e4,e5⟩:=room_ex w10 l (i:Int) a11 a12 a13 0 (Nat.zero_le _) v1 v3 v4
    have pre:∀R,Ev (fun n=>if e1<(0:Int)then L71_5 n l (i:Int) a11 a12 a13 e1 true else L71_5 n l (i:Int) a11 a12 a13 e1 false) R→Ev (fun n=>L71_1 n l (i:Int) z) R:=by
     intro R hR
     refine .succ ?_
     simp only[L71_1,lenF,if_pos (ilt hi),if_pos c]
     refine .succ ?_
     simp only[L71_2,if_true,getF_nat hx,ds_t152]
     exact Ev.bO1 p2 (Ev.bO1 q2 (Ev.bO1 t2 (Ev.bO1 u2 (Ev.bO1 v2 (e5 R hR)))))
    by_cases ce:e1<0
    ·refine⟨e1,pre _ ?_,e2,e3,fun h=>absurd h (by omega)⟩
     simp only[if_pos ce]
     exact .succ (by simp only[L71_5,if_true];exact .ret)
    ·have s11:=ih a11 (size_row (ag:=true) (sz:=15) hm (by simp)) w11
     have s12:=ih a12 (size_row (ag:=true) (sz:=15) hm (by simp)) w12
     have s13:∀(s1 s2:ByteArray) (m:List D),.agg [.str s1,.str s2,.list true 15 m]∈a13→stR m:=fun s1 s2 m hm2=>ih m (Nat.lt_trans (size_row (ag:=true) (sz:=15) hm2 (by simp)) (size_row (ag:=true) (sz:=3) hm (by simp))) (by obtain⟨b0,b1,b2,e,_,_,w⟩:=rs154 (w13.2 _ hm2);cases e;exact w)
     obtain⟨f1,f2,f3,f4,f5⟩:=s11 e1 e2 e3
     obtain⟨g1,g2,g3,g4,g5⟩:=s12 f1 f3 f4
     obtain⟨k1,k2,k3,k4,k5⟩:=room_arm w13 s13 l (i:Int) 0 (Nat.zero_le _) g1 g3 g4
     obtain⟨r,r1,r2,r3,r4⟩:=ihl k1 k2 k3
     refine⟨r,pre _ ?_,r2,r3,fun hr0=>?_⟩
     ·simp only[if_neg ce]
      refine .succ ?_
      simp only[L71_5,Bool.false_eq_true,if_false]
      refine Ev.bO1 f2 (Ev.bO1 g2 (k5 _ ?_))
      rw[wrap_succ hi h.1]
      exact r1
     ·obtain⟨x1,x2⟩:=r4 hr0
      obtain⟨x3,x4⟩:=k4 (by omega)
      obtain⟨x5,x6⟩:=g5 (by omega)
      obtain⟨x7,x8⟩:=f5 (by omega)
      obtain⟨x9,x10⟩:=e4 (by omega)
      obtain⟨y1,y1'⟩:=v5 (by omega)
      obtain⟨y2,y2'⟩:=u5 (by omega)
      obtain⟨y3,y3'⟩:=t5 (by omega)
      have y4:=q5 (by omega)
      have y5:=p5 (by omega)
      refine⟨by omega,fun j _ _ _ _ _ _ _ _ _ _ _ _ _ _ _ hj hx'=>?_⟩
      by_cases e:j=i
      ·subst e
       rw[hx]at hx'
       cases hx'
       refine⟨y3',y2',y1',.mk (by omega) (fun b0 b1 b2 b3 b4 b5 b6 b7 hm=>?_) (fun b0 b1 b2 b3 b4 b5 b6 b7 hm=>?_),x8,x6,by omega,fun s1 s2 m hm2=>?_⟩
       ·obtain⟨j,hj⟩:=List.getElem?_of_mem hm
        exact (x10 j _ _ _ _ _ _ _ _ (Nat.zero_le _) hj).1
       ·obtain⟨j,hj⟩:=List.getElem?_of_mem hm
        exact (x10 j _ _ _ _ _ _ _ _ (Nat.zero_le _) hj).2
       ·obtain⟨j,hj⟩:=List.getElem?_of_mem hm2
        exact x4 j s1 s2 m (Nat.zero_le _) hj
      ·exact x2 j _ _ _ _ _ _ _ _ _ _ _ _ _ _ _ (by omega) hx'
   ·refine⟨z,.succ ?_,h1,h2,fun h=>absurd h c⟩
    simp only[L71_1,lenF,if_pos (ilt hi),if_neg c]
    exact .succ (by simp only[L71_2,Bool.false_eq_true,if_false];exact .ret)
 intro z h1 h2
 obtain⟨r,r1,r2,r3,r4⟩:=loop 0 (Nat.zero_le _) z h1 h2
 refine⟨r,.succ (by simp only[F71];exact r1),r2,r3,fun hr=>?_⟩
 obtain⟨x1,x2⟩:=r4 hr
 have get:∀(a0:Int) (a1 a2:ByteArray) (a3:List D) (a4:Int) (a5:ByteArray) (a6:List D) (a7:Int) (a8:ByteArray) (a9 a10 a11 a12 a13:List D) (a14:Int),D.agg [.int .u8 a0,.str a1,.str a2,.list false 1 a3,.int .u8 a4,.str a5,.list true 3 a6,.int .i64 a7,.str a8,.list false 1 a9,.list true 8 a10,.list true 15 a11,.list true 15 a12,.list true 3 a13,.int .i64 a14]∈l→Sh a3 a6 a9 a10 a11 a12 a13:=fun _ _ _ _ _ _ _ _ _ _ _ _ _ _ _ hm=>by
  obtain⟨j,hj⟩:=List.getElem?_of_mem hm
  exact x2 j _ _ _ _ _ _ _ _ _ _ _ _ _ _ _ (Nat.zero_le _) hj
 refine⟨by omega,.mk (by omega) (fun _ _ _ _ _ _ _ _ _ _ _ _ _ _ _ hm=>?_) (fun _ _ _ _ _ _ _ _ _ _ _ _ _ _ _ hm=>(get _ _ _ _ _ _ _ _ _ _ _ _ _ _ _ hm).b) (fun _ _ _ _ _ _ _ _ _ _ _ _ _ _ _ hm=>(get _ _ _ _ _ _ _ _ _ _ _ _ _ _ _ hm).o) (fun _ _ _ _ _ _ _ _ _ _ _ _ _ _ _ hm=>(get _ _ _ _ _ _ _ _ _ _ _ _ _ _ _ hm).m)⟩
 have g:=get _ _ _ _ _ _ _ _ _ _ _ _ _ _ _ hm
 exact⟨g.n,g.t,g.p,g.e,g.k⟩
theorem SmS.sh {l:List D}(h:SmS l) {a0:Int}{a1 a2:ByteArray}{a3:List D}{a4:Int}{a5:ByteArray}{a6:List D}{a7:Int}{a8:ByteArray}{a9 a10 a11 a12 a13:List D}{a14:Int}(hm:D.agg [.int .u8 a0,.str a1,.str a2,.list false 1 a3,.int .u8 a4,.str a5,.list true 3 a6,.int .i64 a7,.str a8,.list false 1 a9,.list true 8 a10,.list true 15 a11,.list true 15 a12,.list true 3 a13,.int .i64 a14]∈l):Sh a3 a6 a9 a10 a11 a12 a13:=by
 cases h with
 | mk h h3 h11 h12 h13=>
  obtain⟨x1,x2,x3,x4,x5⟩:=h3 _ _ _ _ _ _ _ _ _ _ _ _ _ _ _ hm
  exact⟨x1,x2,x3,x4,h11 _ _ _ _ _ _ _ _ _ _ _ _ _ _ _ hm,h12 _ _ _ _ _ _ _ _ _ _ _ _ _ _ _ hm,x5,h13 _ _ _ _ _ _ _ _ _ _ _ _ _ _ _ hm⟩
theorem SmS.len {l:List D}(h:SmS l):l.length≤4000:=by cases h;assumption
theorem SmE.len {l:List D}(h:SmE l):l.length≤4000:=by cases h;assumption
theorem SmT.len {l:List D}(h:SmT l):l.length≤4000:=by cases h;assumption
theorem SmT.row {l:List D}(h:SmT l) {a:Int}{s:ByteArray}{m:List D}(hm:D.agg [.int .u8 a,.str s,.list true 3 m]∈l):SmT m:=by
 cases h with
 | mk h hr=>exact hr _ _ _ hm
theorem SmE.row {l:List D}(h:SmE l) {a0 a1:Int}{a2 a3 a4:ByteArray}{a5 a6:List D}{a7:Int}(hm:D.agg [.int .u8 a0,.int .i64 a1,.str a2,.str a3,.str a4,.list false 1 a5,.list true 8 a6,.int .i64 a7]∈l):a5.length≤4000∧SmE a6:=by
 cases h with
 | mk h h5 h6=>exact⟨h5 _ _ _ _ _ _ _ _ hm,h6 _ _ _ _ _ _ _ _ hm⟩
end Go.Proofs.Ytiiojajgajnhpaa
end
set_option linter.unusedVariables false
noncomputable section
namespace Go.Proofs.Ytiiojajgajnhpaa
open Go Go.AM
theorem sm5 {a0:Int}(w0:(Lit.int .u8 a0).wf=true):Shape tab 5 [.int .u8 a0]:=.int (x:=tyD tab 5) a0 (by kernel_rfl) (by kernel_rfl) w0
theorem sm9 {a0:ByteArray}(w0:a0.size≤maxLen):Shape tab 9 [.str a0]:=.str (x:=tyD tab 9) a0 (by kernel_rfl) (by kernel_rfl) w0
theorem mk9 {a0:ByteArray}(w0:a0.size≤maxLen):RowS tab 9 (.str a0):=⟨sm9 w0,fun y hy=>by rw[show tab 9=some (tyD tab 9)by kernel_rfl]at hy;cases hy;kernel_rfl⟩
theorem sm25 {a0:List D}(w0:ListS tab 27 a0):Shape tab 25 [.list true 3 a0]:=by
 have e:D.list (rowD (tyD tab 27).desc) (tyD tab 27).size a0= .list true 3 a0:=by kernel_rfl
 rw[←e]
 exact w0.shape tab_one (x:=tyD tab 25) (y:=tyD tab 27) (by kernel_rfl) (by kernel_rfl) (by kernel_rfl)
theorem sm27 {a0:Int}{a1:ByteArray}{a2:List D}(w0:(Lit.int .u8 a0).wf=true) (w1:a1.size≤maxLen) (w2:ListS tab 27 a2):Shape tab 27 [.int .u8 a0,.str a1,.list true 3 a2]:=by
 have tt:tab 27=some (tyD tab 27):=by kernel_rfl
 obtain⟨fs,hfs,hall⟩:∃fs,(tyD tab 27).desc= .struct fs∧(fs.toList.all fun f=>[(5,0),(9,1),(25,2)].contains (f.type,f.offset))=true:=⟨(match (tyD tab 27).desc with | .struct fs=>fs | _=>#[]),by kernel_rfl,by kernel_rfl⟩
 refine .struct (x:=tyD tab 27) (fs:=fs) _ tt hfs (by kernel_rfl) (by simp[D.isAgg]) (fun f hf y hy=>?_)
 have hq:=List.all_eq_true.1 hall f hf
 simp only[List.contains_cons,List.contains_nil,Bool.or_false,Bool.or_eq_true,beq_iff_eq,Prod.mk.injEq]at hq
 rcases hq with⟨e1,e2⟩ | ⟨e1,e2⟩ | ⟨e1,e2⟩
 ·rw[e1,show tab 5=some (tyD tab 5)by kernel_rfl]at hy;cases hy;rw[e1,e2,show (tyD tab 5).size=1 by kernel_rfl];exact sm5 w0
 ·rw[e1,show tab 9=some (tyD tab 9)by kernel_rfl]at hy;cases hy;rw[e1,e2,show (tyD tab 9).size=1 by kernel_rfl];exact sm9 w1
 ·rw[e1,show tab 25=some (tyD tab 25)by kernel_rfl]at hy;cases hy;rw[e1,e2,show (tyD tab 25).size=1 by kernel_rfl];exact sm25 w2
theorem mk27 {a0:Int}{a1:ByteArray}{a2:List D}(w0:(Lit.int .u8 a0).wf=true) (w1:a1.size≤maxLen) (w2:ListS tab 27 a2):RowS tab 27 (.agg [.int .u8 a0,.str a1,.list true 3 a2]):=⟨sm27 w0 w1 w2,fun y hy=>by rw[show tab 27=some (tyD tab 27)by kernel_rfl]at hy;cases hy;kernel_rfl⟩
theorem sm2 {a0:Int}(w0:(Lit.int .i64 a0).wf=true):Shape tab 2 [.int .i64 a0]:=.int (x:=tyD tab 2) a0 (by kernel_rfl) (by kernel_rfl) w0
theorem sm28 {a0:List D}(w0:ListS tab 9 a0):Shape tab 28 [.list false 1 a0]:=by
 have e:D.list (rowD (tyD tab 9).desc) (tyD tab 9).size a0= .list false 1 a0:=by kernel_rfl
 rw[←e]
 exact w0.shape tab_one (x:=tyD tab 28) (y:=tyD tab 9) (by kernel_rfl) (by kernel_rfl) (by kernel_rfl)
theorem sm30 {a0:ByteArray}{a1:List D}(w0:a0.size≤maxLen) (w1:ListS tab 9 a1):Shape tab 30 [.str a0,.list false 1 a1]:=by
 have tt:tab 30=some (tyD tab 30):=by kernel_rfl
 obtain⟨fs,hfs,hall⟩:∃fs,(tyD tab 30).desc= .struct fs∧(fs.toList.all fun f=>[(9,0),(28,1)].contains (f.type,f.offset))=true:=⟨(match (tyD tab 30).desc with | .struct fs=>fs | _=>#[]),by kernel_rfl,by kernel_rfl⟩
 refine .struct (x:=tyD tab 30) (fs:=fs) _ tt hfs (by kernel_rfl) (by simp[D.isAgg]) (fun f hf y hy=>?_)
 have hq:=List.all_eq_true.1 hall f hf
 simp only[List.contains_cons,List.contains_nil,Bool.or_false,Bool.or_eq_true,beq_iff_eq,Prod.mk.injEq]at hq
 rcases hq with⟨e1,e2⟩ | ⟨e1,e2⟩
 ·rw[e1,show tab 9=some (tyD tab 9)by kernel_rfl]at hy;cases hy;rw[e1,e2,show (tyD tab 9).size=1 by kernel_rfl];exact sm9 w0
 ·rw[e1,show tab 28=some (tyD tab 28)by kernel_rfl]at hy;cases hy;rw[e1,e2,show (tyD tab 28).size=1 by kernel_rfl];exact sm28 w1
theorem sm31 {a0:List D}(w0:ListS tab 33 a0):Shape tab 31 [.list true 8 a0]:=by
 have e:D.list (rowD (tyD tab 33).desc) (tyD tab 33).size a0= .list true 8 a0:=by kernel_rfl
 rw[←e]
 exact w0.shape tab_one (x:=tyD tab 31) (y:=tyD tab 33) (by kernel_rfl) (by kernel_rfl) (by kernel_rfl)
theorem sm3 {a0:Int}(w0:(Lit.int .i64 a0).wf=true):Shape tab 3 [.int .i64 a0]:=.int (x:=tyD tab 3) a0 (by kernel_rfl) (by kernel_rfl) w0
theorem sm33 {a0:Int}{a1:Int}{a2:ByteArray}{a3:ByteArray}{a4:ByteArray}{a5:List D}{a6:List D}{a7:Int}(w0:(Lit.int .u8 a0).wf=true) (w1:(Lit.int .i64 a1).wf=true) (w2:a2.size≤maxLen) (w3:a3.size≤maxLen) (w4:a4.size≤maxLen) (w5:ListS tab 9 a5) (w6:ListS tab 33 a6) (w7:(Lit.int .i64 a7).wf=true):Shape tab 33 [.int .u8 a0,.int .i64 a1,.str a2,.str a3,.str a4,.list false 1 a5,.list true 8 a6,.int .i64 a7]:=by
 have tt:tab 33=some (tyD tab 33):=by kernel_rfl
 obtain⟨fs,hfs,hall⟩:∃fs,(tyD tab 33).desc= .struct fs∧(fs.toList.all fun f=>[(5,0),(2,1),(9,2),(9,3),(30,4),(31,6),(3,7)].contains (f.type,f.offset))=true:=⟨(match (tyD tab 33).desc with | .struct fs=>fs | _=>#[]),by kernel_rfl,by kernel_rfl⟩
 refine .struct (x:=tyD tab 33) (fs:=fs) _ tt hfs (by kernel_rfl) (by simp[D.isAgg]) (fun f hf y hy=>?_)
 have hq:=List.all_eq_true.1 hall f hf
 simp only[List.contains_cons,List.contains_nil,Bool.or_false,Bool.or_eq_true,beq_iff_eq,Prod.mk.injEq]at hq
 rcases hq with⟨e1,e2⟩ | ⟨e1,e2⟩ | ⟨e1,e2⟩ | ⟨e1,e2⟩ | ⟨e1,e2⟩ | ⟨e1,e2⟩ | ⟨e1,e2⟩
 ·rw[e1,show tab 5=some (tyD tab 5)by kernel_rfl]at hy;cases hy;rw[e1,e2,show (tyD tab 5).size=1 by kernel_rfl];exact sm5 w0
 ·rw[e1,show tab 2=some (tyD tab 2)by kernel_rfl]at hy;cases hy;rw[e1,e2,show (tyD tab 2).size=1 by kernel_rfl];exact sm2 w1
 ·rw[e1,show tab 9=some (tyD tab 9)by kernel_rfl]at hy;cases hy;rw[e1,e2,show (tyD tab 9).size=1 by kernel_rfl];exact sm9 w2
 ·rw[e1,show tab 9=some (tyD tab 9)by kernel_rfl]at hy;cases hy;rw[e1,e2,show (tyD tab 9).size=1 by kernel_rfl];exact sm9 w3
 ·rw[e1,show tab 30=some (tyD tab 30)by kernel_rfl]at hy;cases hy;rw[e1,e2,show (tyD tab 30).size=2 by kernel_rfl];exact sm30 w4 w5
 ·rw[e1,show tab 31=some (tyD tab 31)by kernel_rfl]at hy;cases hy;rw[e1,e2,show (tyD tab 31).size=1 by kernel_rfl];exact sm31 w6
 ·rw[e1,show tab 3=some (tyD tab 3)by kernel_rfl]at hy;cases hy;rw[e1,e2,show (tyD tab 3).size=1 by kernel_rfl];exact sm3 w7
theorem mk33 {a0:Int}{a1:Int}{a2:ByteArray}{a3:ByteArray}{a4:ByteArray}{a5:List D}{a6:List D}{a7:Int}(w0:(Lit.int .u8 a0).wf=true) (w1:(Lit.int .i64 a1).wf=true) (w2:a2.size≤maxLen) (w3:a3.size≤maxLen) (w4:a4.size≤maxLen) (w5:ListS tab 9 a5) (w6:ListS tab 33 a6) (w7:(Lit.int .i64 a7).wf=true):RowS tab 33 (.agg [.int .u8 a0,.int .i64 a1,.str a2,.str a3,.str a4,.list false 1 a5,.list true 8 a6,.int .i64 a7]):=⟨sm33 w0 w1 w2 w3 w4 w5 w6 w7,fun y hy=>by rw[show tab 33=some (tyD tab 33)by kernel_rfl]at hy;cases hy;kernel_rfl⟩
theorem sm123 {a0:List D}(w0:ListS tab 136 a0):Shape tab 123 [.list true 4 a0]:=by
 have e:D.list (rowD (tyD tab 136).desc) (tyD tab 136).size a0= .list true 4 a0:=by kernel_rfl
 rw[←e]
 exact w0.shape tab_one (x:=tyD tab 123) (y:=tyD tab 136) (by kernel_rfl) (by kernel_rfl) (by kernel_rfl)
theorem sm124 {a0:List D}(w0:ListS tab 152 a0):Shape tab 124 [.list true 15 a0]:=by
 have e:D.list (rowD (tyD tab 152).desc) (tyD tab 152).size a0= .list true 15 a0:=by kernel_rfl
 rw[←e]
 exact w0.shape tab_one (x:=tyD tab 124) (y:=tyD tab 152) (by kernel_rfl) (by kernel_rfl) (by kernel_rfl)
theorem sm126 {a0:Int}{a1:ByteArray}{a2:List D}{a3:Int}{a4:ByteArray}{a5:List D}{a6:List D}{a7:Int}{a8:Int}{a9:ByteArray}{a10:ByteArray}{a11:ByteArray}{a12:List D}{a13:List D}{a14:Int}{a15:Int}(w0:(Lit.int .u8 a0).wf=true) (w1:a1.size≤maxLen) (w2:ListS tab 136 a2) (w3:(Lit.int .u8 a3).wf=true) (w4:a4.size≤maxLen) (w5:ListS tab 27 a5) (w6:ListS tab 152 a6) (w7:(Lit.int .u8 a7).wf=true) (w8:(Lit.int .i64 a8).wf=true) (w9:a9.size≤maxLen) (w10:a10.size≤maxLen) (w11:a11.size≤maxLen) (w12:ListS tab 9 a12) (w13:ListS tab 33 a13) (w14:(Lit.int .i64 a14).wf=true) (w15:(Lit.int .i64 a15).wf=true):Shape tab 126 [.int .u8 a0,.str a1,.list true 4 a2,.int .u8 a3,.str a4,.list true 3 a5,.list true 15 a6,.int .u8 a7,.int .i64 a8,.str a9,.str a10,.str a11,.list false 1 a12,.list true 8 a13,.int .i64 a14,.int .i64 a15]:=by
 have tt:tab 126=some (tyD tab 126):=by kernel_rfl
 obtain⟨fs,hfs,hall⟩:∃fs,(tyD tab 126).desc= .struct fs∧(fs.toList.all fun f=>[(5,0),(9,1),(123,2),(27,3),(124,6),(33,7),(3,15)].contains (f.type,f.offset))=true:=⟨(match (tyD tab 126).desc with | .struct fs=>fs | _=>#[]),by kernel_rfl,by kernel_rfl⟩
 refine .struct (x:=tyD tab 126) (fs:=fs) _ tt hfs (by kernel_rfl) (by simp[D.isAgg]) (fun f hf y hy=>?_)
 have hq:=List.all_eq_true.1 hall f hf
 simp only[List.contains_cons,List.contains_nil,Bool.or_false,Bool.or_eq_true,beq_iff_eq,Prod.mk.injEq]at hq
 rcases hq with⟨e1,e2⟩ | ⟨e1,e2⟩ | ⟨e1,e2⟩ | ⟨e1,e2⟩ | ⟨e1,e2⟩ | ⟨e1,e2⟩ | ⟨e1,e2⟩
 ·rw[e1,show tab 5=some (tyD tab 5)by kernel_rfl]at hy;cases hy;rw[e1,e2,show (tyD tab 5).size=1 by kernel_rfl];exact sm5 w0
 ·rw[e1,show tab 9=some (tyD tab 9)by kernel_rfl]at hy;cases hy;rw[e1,e2,show (tyD tab 9).size=1 by kernel_rfl];exact sm9 w1
 ·rw[e1,show tab 123=some (tyD tab 123)by kernel_rfl]at hy;cases hy;rw[e1,e2,show (tyD tab 123).size=1 by kernel_rfl];exact sm123 w2
 ·rw[e1,show tab 27=some (tyD tab 27)by kernel_rfl]at hy;cases hy;rw[e1,e2,show (tyD tab 27).size=3 by kernel_rfl];exact sm27 w3 w4 w5
 ·rw[e1,show tab 124=some (tyD tab 124)by kernel_rfl]at hy;cases hy;rw[e1,e2,show (tyD tab 124).size=1 by kernel_rfl];exact sm124 w6
 ·rw[e1,show tab 33=some (tyD tab 33)by kernel_rfl]at hy;cases hy;rw[e1,e2,show (tyD tab 33).size=8 by kernel_rfl];exact sm33 w7 w8 w9 w10 w11 w12 w13 w14
 ·rw[e1,show tab 3=some (tyD tab 3)by kernel_rfl]at hy;cases hy;rw[e1,e2,show (tyD tab 3).size=1 by kernel_rfl];exact sm3 w15
theorem mk126 {a0:Int}{a1:ByteArray}{a2:List D}{a3:Int}{a4:ByteArray}{a5:List D}{a6:List D}{a7:Int}{a8:Int}{a9:ByteArray}{a10:ByteArray}{a11:ByteArray}{a12:List D}{a13:List D}{a14:Int}{a15:Int}(w0:(Lit.int .u8 a0).wf=true) (w1:a1.size≤maxLen) (w2:ListS tab 136 a2) (w3:(Lit.int .u8 a3).wf=true) (w4:a4.size≤maxLen) (w5:ListS tab 27 a5) (w6:ListS tab 152 a6) (w7:(Lit.int .u8 a7).wf=true) (w8:(Lit.int .i64 a8).wf=true) (w9:a9.size≤maxLen) (w10:a10.size≤maxLen) (w11:a11.size≤maxLen) (w12:ListS tab 9 a12) (w13:ListS tab 33 a13) (w14:(Lit.int .i64 a14).wf=true) (w15:(Lit.int .i64 a15).wf=true):RowS tab 126 (.agg [.int .u8 a0,.str a1,.list true 4 a2,.int .u8 a3,.str a4,.list true 3 a5,.list true 15 a6,.int .u8 a7,.int .i64 a8,.str a9,.str a10,.str a11,.list false 1 a12,.list true 8 a13,.int .i64 a14,.int .i64 a15]):=⟨sm126 w0 w1 w2 w3 w4 w5 w6 w7 w8 w9 w10 w11 w12 w13 w14 w15,fun y hy=>by rw[show tab 126=some (tyD tab 126)by kernel_rfl]at hy;cases hy;kernel_rfl⟩
theorem sm136 {a0:ByteArray}{a1:Int}{a2:ByteArray}{a3:List D}(w0:a0.size≤maxLen) (w1:(Lit.int .u8 a1).wf=true) (w2:a2.size≤maxLen) (w3:ListS tab 27 a3):Shape tab 136 [.str a0,.int .u8 a1,.str a2,.list true 3 a3]:=by
 have tt:tab 136=some (tyD tab 136):=by kernel_rfl
 obtain⟨fs,hfs,hall⟩:∃fs,(tyD tab 136).desc= .struct fs∧(fs.toList.all fun f=>[(9,0),(27,1)].contains (f.type,f.offset))=true:=⟨(match (tyD tab 136).desc with | .struct fs=>fs | _=>#[]),by kernel_rfl,by kernel_rfl⟩
 refine .struct (x:=tyD tab 136) (fs:=fs) _ tt hfs (by kernel_rfl) (by simp[D.isAgg]) (fun f hf y hy=>?_)
 have hq:=List.all_eq_true.1 hall f hf
 simp only[List.contains_cons,List.contains_nil,Bool.or_false,Bool.or_eq_true,beq_iff_eq,Prod.mk.injEq]at hq
 rcases hq with⟨e1,e2⟩ | ⟨e1,e2⟩
 ·rw[e1,show tab 9=some (tyD tab 9)by kernel_rfl]at hy;cases hy;rw[e1,e2,show (tyD tab 9).size=1 by kernel_rfl];exact sm9 w0
 ·rw[e1,show tab 27=some (tyD tab 27)by kernel_rfl]at hy;cases hy;rw[e1,e2,show (tyD tab 27).size=3 by kernel_rfl];exact sm27 w1 w2 w3
theorem mk136 {a0:ByteArray}{a1:Int}{a2:ByteArray}{a3:List D}(w0:a0.size≤maxLen) (w1:(Lit.int .u8 a1).wf=true) (w2:a2.size≤maxLen) (w3:ListS tab 27 a3):RowS tab 136 (.agg [.str a0,.int .u8 a1,.str a2,.list true 3 a3]):=⟨sm136 w0 w1 w2 w3,fun y hy=>by rw[show tab 136=some (tyD tab 136)by kernel_rfl]at hy;cases hy;kernel_rfl⟩
theorem sm150 {a0:List D}(w0:ListS tab 154 a0):Shape tab 150 [.list true 3 a0]:=by
 have e:D.list (rowD (tyD tab 154).desc) (tyD tab 154).size a0= .list true 3 a0:=by kernel_rfl
 rw[←e]
 exact w0.shape tab_one (x:=tyD tab 150) (y:=tyD tab 154) (by kernel_rfl) (by kernel_rfl) (by kernel_rfl)
theorem sm152 {a0:Int}{a1:ByteArray}{a2:ByteArray}{a3:List D}{a4:Int}{a5:ByteArray}{a6:List D}{a7:Int}{a8:ByteArray}{a9:List D}{a10:List D}{a11:List D}{a12:List D}{a13:List D}{a14:Int}(w0:(Lit.int .u8 a0).wf=true) (w1:a1.size≤maxLen) (w2:a2.size≤maxLen) (w3:ListS tab 9 a3) (w4:(Lit.int .u8 a4).wf=true) (w5:a5.size≤maxLen) (w6:ListS tab 27 a6) (w7:(Lit.int .i64 a7).wf=true) (w8:a8.size≤maxLen) (w9:ListS tab 9 a9) (w10:ListS tab 33 a10) (w11:ListS tab 152 a11) (w12:ListS tab 152 a12) (w13:ListS tab 154 a13) (w14:(Lit.int .i64 a14).wf=true):Shape tab 152 [.int .u8 a0,.str a1,.str a2,.list false 1 a3,.int .u8 a4,.str a5,.list true 3 a6,.int .i64 a7,.str a8,.list false 1 a9,.list true 8 a10,.list true 15 a11,.list true 15 a12,.list true 3 a13,.int .i64 a14]:=by
 have tt:tab 152=some (tyD tab 152):=by kernel_rfl
 obtain⟨fs,hfs,hall⟩:∃fs,(tyD tab 152).desc= .struct fs∧(fs.toList.all fun f=>[(5,0),(9,1),(9,2),(28,3),(27,4),(2,7),(30,8),(31,10),(124,11),(124,12),(150,13),(3,14)].contains (f.type,f.offset))=true:=⟨(match (tyD tab 152).desc with | .struct fs=>fs | _=>#[]),by kernel_rfl,by kernel_rfl⟩
 refine .struct (x:=tyD tab 152) (fs:=fs) _ tt hfs (by kernel_rfl) (by simp[D.isAgg]) (fun f hf y hy=>?_)
 have hq:=List.all_eq_true.1 hall f hf
 simp only[List.contains_cons,List.contains_nil,Bool.or_false,Bool.or_eq_true,beq_iff_eq,Prod.mk.injEq]at hq
 rcases hq with⟨e1,e2⟩ | ⟨e1,e2⟩ | ⟨e1,e2⟩ | ⟨e1,e2⟩ | ⟨e1,e2⟩ | ⟨e1,e2⟩ | ⟨e1,e2⟩ | ⟨e1,e2⟩ | ⟨e1,e2⟩ | ⟨e1,e2⟩ | ⟨e1,e2⟩ | ⟨e1,e2⟩
 ·rw[e1,show tab 5=some (tyD tab 5)by kernel_rfl]at hy;cases hy;rw[e1,e2,show (tyD tab 5).size=1 by kernel_rfl];exact sm5 w0
 ·rw[e1,show tab 9=some (tyD tab 9)by kernel_rfl]at hy;cases hy;rw[e1,e2,show (tyD tab 9).size=1 by kernel_rfl];exact sm9 w1
 ·rw[e1,show tab 9=some (tyD tab 9)by kernel_rfl]at hy;cases hy;rw[e1,e2,show (tyD tab 9).size=1 by kernel_rfl];exact sm9 w2
 ·rw[e1,show tab 28=some (tyD tab 28)by kernel_rfl]at hy;cases hy;rw[e1,e2,show (tyD tab 28).size=1 by kernel_rfl];exact sm28 w3
 ·rw[e1,show tab 27=some (tyD tab 27)by kernel_rfl]at hy;cases hy;rw[e1,e2,show (tyD tab 27).size=3 by kernel_rfl];exact sm27 w4 w5 w6
 ·rw[e1,show tab 2=some (tyD tab 2)by kernel_rfl]at hy;cases hy;rw[e1,e2,show (tyD tab 2).size=1 by kernel_rfl];exact sm2 w7
 ·rw[e1,show tab 30=some (tyD tab 30)by kernel_rfl]at hy;cases hy;rw[e1,e2,show (tyD tab 30).size=2 by kernel_rfl];exact sm30 w8 w9
 ·rw[e1,show tab 31=some (tyD tab 31)by kernel_rfl]at hy;cases hy;rw[e1,e2,show (tyD tab 31).size=1 by kernel_rfl];exact sm31 w10
 ·rw[e1,show tab 124=some (tyD tab 124)by kernel_rfl]at hy;cases hy;rw[e1,e2,show (tyD tab 124).size=1 by kernel_rfl];exact sm124 w11
 ·rw[e1,show tab 124=some (tyD tab 124)by kernel_rfl]at hy;cases hy;rw[e1,e2,show (tyD tab 124).size=1 by kernel_rfl];exact sm124 w12
 ·rw[e1,show tab 150=some (tyD tab 150)by kernel_rfl]at hy;cases hy;rw[e1,e2,show (tyD tab 150).size=1 by kernel_rfl];exact sm150 w13
 ·rw[e1,show tab 3=some (tyD tab 3)by kernel_rfl]at hy;cases hy;rw[e1,e2,show (tyD tab 3).size=1 by kernel_rfl];exact sm3 w14
theorem mk152 {a0:Int}{a1:ByteArray}{a2:ByteArray}{a3:List D}{a4:Int}{a5:ByteArray}{a6:List D}{a7:Int}{a8:ByteArray}{a9:List D}{a10:List D}{a11:List D}{a12:List D}{a13:List D}{a14:Int}(w0:(Lit.int .u8 a0).wf=true) (w1:a1.size≤maxLen) (w2:a2.size≤maxLen) (w3:ListS tab 9 a3) (w4:(Lit.int .u8 a4).wf=true) (w5:a5.size≤maxLen) (w6:ListS tab 27 a6) (w7:(Lit.int .i64 a7).wf=true) (w8:a8.size≤maxLen) (w9:ListS tab 9 a9) (w10:ListS tab 33 a10) (w11:ListS tab 152 a11) (w12:ListS tab 152 a12) (w13:ListS tab 154 a13) (w14:(Lit.int .i64 a14).wf=true):RowS tab 152 (.agg [.int .u8 a0,.str a1,.str a2,.list false 1 a3,.int .u8 a4,.str a5,.list true 3 a6,.int .i64 a7,.str a8,.list false 1 a9,.list true 8 a10,.list true 15 a11,.list true 15 a12,.list true 3 a13,.int .i64 a14]):=⟨sm152 w0 w1 w2 w3 w4 w5 w6 w7 w8 w9 w10 w11 w12 w13 w14,fun y hy=>by rw[show tab 152=some (tyD tab 152)by kernel_rfl]at hy;cases hy;kernel_rfl⟩
theorem sm154 {a0:ByteArray}{a1:ByteArray}{a2:List D}(w0:a0.size≤maxLen) (w1:a1.size≤maxLen) (w2:ListS tab 152 a2):Shape tab 154 [.str a0,.str a1,.list true 15 a2]:=by
 have tt:tab 154=some (tyD tab 154):=by kernel_rfl
 obtain⟨fs,hfs,hall⟩:∃fs,(tyD tab 154).desc= .struct fs∧(fs.toList.all fun f=>[(9,0),(9,1),(124,2)].contains (f.type,f.offset))=true:=⟨(match (tyD tab 154).desc with | .struct fs=>fs | _=>#[]),by kernel_rfl,by kernel_rfl⟩
 refine .struct (x:=tyD tab 154) (fs:=fs) _ tt hfs (by kernel_rfl) (by simp[D.isAgg]) (fun f hf y hy=>?_)
 have hq:=List.all_eq_true.1 hall f hf
 simp only[List.contains_cons,List.contains_nil,Bool.or_false,Bool.or_eq_true,beq_iff_eq,Prod.mk.injEq]at hq
 rcases hq with⟨e1,e2⟩ | ⟨e1,e2⟩ | ⟨e1,e2⟩
 ·rw[e1,show tab 9=some (tyD tab 9)by kernel_rfl]at hy;cases hy;rw[e1,e2,show (tyD tab 9).size=1 by kernel_rfl];exact sm9 w0
 ·rw[e1,show tab 9=some (tyD tab 9)by kernel_rfl]at hy;cases hy;rw[e1,e2,show (tyD tab 9).size=1 by kernel_rfl];exact sm9 w1
 ·rw[e1,show tab 124=some (tyD tab 124)by kernel_rfl]at hy;cases hy;rw[e1,e2,show (tyD tab 124).size=1 by kernel_rfl];exact sm124 w2
theorem mk154 {a0:ByteArray}{a1:ByteArray}{a2:List D}(w0:a0.size≤maxLen) (w1:a1.size≤maxLen) (w2:ListS tab 152 a2):RowS tab 154 (.agg [.str a0,.str a1,.list true 15 a2]):=⟨sm154 w0 w1 w2,fun y hy=>by rw[show tab 154=some (tyD tab 154)by kernel_rfl]at hy;cases hy;kernel_rfl⟩
end Go.Proofs.Ytiiojajgajnhpaa
end
set_option linter.unusedVariables false
noncomputable section
namespace Go.Proofs.Ytiiojajgajnhpaa
open Go Go.AM
mutual
def L86_1:Nat→Int→ByteArray→(List D)→Int→(List D)→Option (Int×ByteArray×List D)
 | 0,_,_,_,_,_=>none
 | n+1,z1,s2,l3,z4,l5=>
  lenF l3 fun z6=>(if z4<z6 then L86_2 n z1 s2 l3 z4 l5 true else L86_2 n z1 s2 l3 z4 l5 false)
def L86_2:Nat→Int→ByteArray→(List D)→Int→(List D)→Bool→Option (Int×ByteArray×List D)
 | 0,_,_,_,_,_,_=>none
 | n+1,z1,s2,l3,z4,l5,b7=>
  (if b7=true then getF l3 z4 fun x8=>ds_t27 x8 fun z9 s10 l11=>bO3 (F86 n z9 s10 l11) fun z12 s13 l14=>appF 48 l5 ([.agg [.int .u8 z12,.str s13,.list true 3 l14]]) fun l15=>letF (IntKind.wrap .i64 (z4+1)) fun z16=>L86_1 n z1 s2 l3 z16 l15 else some (z1,s2,l5))
def F86:Nat→Int→ByteArray→(List D)→Option (Int×ByteArray×List D)
 | 0,_,_,_=>none
 | n+1,z1,s2,l3=>
  L86_1 n z1 s2 l3 (0:Int) ([]:List D)
end
theorem T86 (n:Nat):∀⦃z1:Int⦄ ⦃s2:ByteArray⦄ ⦃l3:List D⦄ ⦃r1:Int⦄ ⦃r2:ByteArray⦄ ⦃r3:List D⦄,F86 n z1 s2 l3=some (r1,r2,r3)→
    Trip Try.prog inv 86 [.d (.agg [.int .u8 z1,.str s2,.list true 3 l3])] [] (.v (.d (.agg [.int .u8 r1,.str r2,.list true 3 r3]))) [] []:=by
 induction n using Nat.strongRecOn with | _ n ih=>
 obtain _ | n:=n
 ·intro z1 s2 l3 r1 r2 r3 h
  cases (show (none:Option _)=some _ from h)
 intro z1 s2 l3 r1 r2 r3 h
 rw[F86]at h
 refine Trip.of tab_ok tab_one fol Try.func86 rfl (by kernel_rfl) rfl rfl rfl (fun M hM hI=>?_)
 try cbv
 refine seq_go ?_
 try cbv
 refine seq_go ?_
 try cbv
 refine seq_go ?_
 try cbv
 refine seq_go ?_
 try cbv
 refine seq_go ?_
 try cbv
 refine loop_invT (T:=Nat×Int×List D) [.cell (.loc 96) 2 true 3 27] [1,2,3,4] [.loc 0,.loc 32,.loc 96,.loc 256] 288 (fun t=>⟨[(1,.v (.c (.ptr (.loc 0) 0))),(2,.v (.c (.ptr (.loc 32) 0))),(3,.v (.c (.ptr (.loc 96) 0))),(4,.v (.d (.int .i64 t.2.1)))],[(.loc 0,.cells [.d (.int .u8 z1),.d (.str s2),.d (.list true 3 l3)]),(.loc 32,.cells [.d (.int .u8 0),.d (.str ByteArray.empty),.nils true 3]),(.loc 96,.cells [.d (.int .u8 z1),.d (.str s2),.lst (.loc 256) true 3 t.2.2]),(.loc 256,.tok t.2.2.length 3 27)],288⟩)
   (fun t=>t.1≤n∧L86_1 t.1 z1 s2 l3 t.2.1 t.2.2=some (r1,r2,r3)) (fun t=>t.1) (n,((0:Int),([]:List D))) ⟨Nat.le_refl _,h⟩ (by cbv) ?_
 clear h
 rintro⟨m1,z4,l5⟩ ⟨hm1,h⟩
 replace hm1:m1≤n:=hm1
 obtain _ | m1:=m1
 ·replace h:L86_1 0 z1 s2 l3 z4 l5=some (r1,r2,r3):=h
  rw[L86_1]at h
  cases h
 replace h:L86_1 (m1+1) z1 s2 l3 z4 l5=some (r1,r2,r3):=h
 rw[L86_1]at h
 try cbv
 refine seq_go ?_
 try cbv
 refine seq_join (T:=Nat×Bool) (fun t=>⟨[(1,.v (.c (.ptr (.loc 0) 0))),(2,.v (.c (.ptr (.loc 32) 0))),(3,.v (.c (.ptr (.loc 96) 0))),(4,.v (.d (.int .i64 z4))),(11,.v (.d (.bool t.2)))],[(.loc 0,.cells [.d (.int .u8 z1),.d (.str s2),.d (.list true 3 l3)]),(.loc 32,.cells [.d (.int .u8 0),.d (.str ByteArray.empty),.nils true 3]),(.loc 96,.cells [.d (.int .u8 z1),.d (.str s2),.lst (.loc 256) true 3 l5]),(.loc 256,.tok l5.length 3 27)],448⟩) (fun t=>t.1≤m1∧L86_2 t.1 z1 s2 l3 z4 l5 t.2=some (r1,r2,r3)) ?_ ?_
 ·try cbv
  replace h:=lenF_inv M h
  obtain⟨z6,hz,h⟩:=h
  refine⟨z6,hz,?_⟩
  clear hz
  try cbv
  refine splitL (fun e=>?_) (fun e=>?_)
  ·replace h:=ite_t e h
   clear e
   try cbv
   exact join_next (m1,true) [1,2,3,4,11] [.loc 0,.loc 32,.loc 96,.loc 256] 448 ⟨by omega,h⟩ (by cbv)
  replace h:=ite_f (Int.not_lt.2 e) h
  clear e
  try cbv
  exact join_next (m1,false) [1,2,3,4,11] [.loc 0,.loc 32,.loc 96,.loc 256] 448 ⟨by omega,h⟩ (by cbv)
 clear h
 rintro⟨m2,b7⟩ ⟨hm2,h⟩
 replace hm2:m2≤m1:=hm2
 obtain _ | m2:=m2
 ·replace h:L86_2 0 z1 s2 l3 z4 l5 b7=some (r1,r2,r3):=h
  rw[L86_2]at h
  cases h
 replace h:L86_2 (m2+1) z1 s2 l3 z4 l5 b7=some (r1,r2,r3):=h
 rw[L86_2]at h
 try cbv
 cases b7
 ·replace h:=ite_f Bool.false_ne_true h
  try cbv
  refine seq_go ?_
  try cbv
  obtain⟨rfl,rfl,rfl⟩:=inj3 h
  refine fin_go ?_
  try cbv
  exact⟨[],rfl,rfl,trivial,trivial,trivial⟩
 replace h:=ite_t rfl h
 try cbv
 refine seq_go ?_
 try cbv
 replace h:=getF_inv h
 obtain⟨x8,⟨hx0,hx⟩,h⟩:=h
 refine⟨x8,hx0,hx,?_⟩
 clear hx0 hx
 replace h:=ds_t27_inv h
 obtain⟨z9,s10,l11,rfl,h⟩:=h
 try cbv
 replace h:=bO3_inv h
 obtain⟨z12,s13,l14,hr,h⟩:=h
 first | refine .inr (.inl ⟨[],?_⟩) | refine .inl ⟨[],?_⟩
 try cbv
 refine call_pure hM hI ((ih _ (by omega)) hr) rfl ?_
 clear hr
 try cbv
 refine⟨false,?_⟩
 try cbv
 refine⟨true,?_⟩
 try cbv
 replace h:=appF_inv h
 obtain⟨l15,hb,hz,h⟩:=h
 refine⟨false,?_⟩
 try cbv
 first | refine⟨rfl,(M.lock_iff _).2 hb,l15,hz,?_⟩ | refine⟨(M.lock_iff _).2 hb,l15,hz,?_⟩
 clear hb hz
 try cbv
 refine drawn ?_ ?_
 ·show _=true
  kernel_rfl
 try cbv
 replace h:=letF_inv h
 obtain⟨z16,hz,h⟩:=h
 refine⟨z16,hz,?_⟩
 clear hz
 try cbv
 exact loop_next (m2,(z16,l15)) [1,2,3,4] [.loc 0,.loc 32,.loc 96,.loc 256] 288 ⟨by omega,h⟩ (Nat.lt_succ_of_le (by omega)) (by cbv)
mutual
def L85_1:Nat→(List D)→(List D)→Int→Option (List D)
 | 0,_,_,_=>none
 | n+1,l1,l2,z3=>
  lenF l1 fun z4=>(if z3<z4 then L85_2 n l1 l2 z3 true else L85_2 n l1 l2 z3 false)
def L85_2:Nat→(List D)→(List D)→Int→Bool→Option (List D)
 | 0,_,_,_,_=>none
 | n+1,l1,l2,z3,b5=>
  (if b5=true then getF l1 z3 fun x6=>ds_t136 x6 fun s7 z8 s9 l10=>getF l1 z3 fun x11=>ds_t136 x11 fun s12 z13 s14 l15=>bO3 (F86 n z13 s14 l15) fun z16 s17 l18=>appF 64 l2 ([.agg [.str s7,.int .u8 z16,.str s17,.list true 3 l18]]) fun l19=>letF (IntKind.wrap .i64 (z3+1)) fun z20=>L85_1 n l1 l19 z20 else some l2)
end
def F85 (n:Nat) (l1:List D):Option (List D):=
 L85_1 n l1 ([]:List D) (0:Int)
theorem T85 (n:Nat):∀⦃l1:List D⦄ ⦃r1:List D⦄,F85 n l1=some r1→
    Trip Try.prog inv 85 [.d (.list true 4 l1)] [] (.v (.d (.list true 4 r1))) [] []:=by
 intro l1 r1 h
 unfold F85 at h
 refine Trip.of tab_ok tab_one fol Try.func85 rfl (by kernel_rfl) rfl rfl rfl (fun M hM hI=>?_)
 try cbv
 refine seq_go ?_
 try cbv
 refine seq_go ?_
 try cbv
 refine seq_go ?_
 try cbv
 refine seq_go ?_
 try cbv
 refine loop_invT (T:=Nat×List D×Int) [.slot 3 true 4 136] [0,2,3,4] [.loc 96] 128 (fun t=>⟨[(0,.v (.d (.list true 4 l1))),(2,.v (.c (.nils true 4))),(3,.v (.c (.lst (.loc 96) true 4 t.2.1))),(4,.v (.d (.int .i64 t.2.2)))],[(.loc 96,.tok t.2.1.length 4 136)],128⟩)
   (fun t=>t.1≤n∧L85_1 t.1 l1 t.2.1 t.2.2=some r1) (fun t=>t.1) (n,(([]:List D),(0:Int))) ⟨Nat.le_refl _,h⟩ (by cbv) ?_
 clear h
 rintro⟨m1,l2,z3⟩ ⟨hm1,h⟩
 replace hm1:m1≤n:=hm1
 obtain _ | m1:=m1
 ·replace h:L85_1 0 l1 l2 z3=some r1:=h
  rw[L85_1]at h
  cases h
 replace h:L85_1 (m1+1) l1 l2 z3=some r1:=h
 rw[L85_1]at h
 try cbv
 refine seq_go ?_
 try cbv
 refine seq_join (T:=Nat×Bool) (fun t=>⟨[(0,.v (.d (.list true 4 l1))),(2,.v (.c (.nils true 4))),(3,.v (.c (.lst (.loc 96) true 4 l2))),(4,.v (.d (.int .i64 z3))),(8,.v (.d (.bool t.2)))],[(.loc 96,.tok l2.length 4 136)],256⟩) (fun t=>t.1≤m1∧L85_2 t.1 l1 l2 z3 t.2=some r1) ?_ ?_
 ·try cbv
  replace h:=lenF_inv M h
  obtain⟨z4,hz,h⟩:=h
  refine⟨z4,hz,?_⟩
  clear hz
  try cbv
  refine splitL (fun e=>?_) (fun e=>?_)
  ·replace h:=ite_t e h
   clear e
   try cbv
   exact join_next (m1,true) [0,2,3,4,8] [.loc 96] 256 ⟨by omega,h⟩ (by cbv)
  replace h:=ite_f (Int.not_lt.2 e) h
  clear e
  try cbv
  exact join_next (m1,false) [0,2,3,4,8] [.loc 96] 256 ⟨by omega,h⟩ (by cbv)
 clear h
 rintro⟨m2,b5⟩ ⟨hm2,h⟩
 replace hm2:m2≤m1:=hm2
 obtain _ | m2:=m2
 ·replace h:L85_2 0 l1 l2 z3 b5=some r1:=h
  rw[L85_2]at h
  cases h
 replace h:L85_2 (m2+1) l1 l2 z3 b5=some r1:=h
 rw[L85_2]at h
 try cbv
 cases b5
 ·replace h:=ite_f Bool.false_ne_true h
  try cbv
  refine seq_go ?_
  try cbv
  obtain rfl:=Option.some.inj h
  refine fin_go ?_
  try cbv
  exact⟨[],rfl,rfl,trivial,trivial,trivial⟩
 replace h:=ite_t rfl h
 try cbv
 refine seq_go ?_
 try cbv
 replace h:=getF_inv h
 obtain⟨x6,⟨hx0,hx⟩,h⟩:=h
 refine⟨x6,hx0,hx,?_⟩
 clear hx0 hx
 replace h:=ds_t136_inv h
 obtain⟨s7,z8,s9,l10,rfl,h⟩:=h
 try cbv
 replace h:=getF_inv h
 obtain⟨x11,⟨hx0,hx⟩,h⟩:=h
 refine⟨x11,hx0,hx,?_⟩
 clear hx0 hx
 replace h:=ds_t136_inv h
 obtain⟨s12,z13,s14,l15,rfl,h⟩:=h
 try cbv
 replace h:=bO3_inv h
 obtain⟨z16,s17,l18,hr,h⟩:=h
 first | refine .inr (.inl ⟨[],?_⟩) | refine .inl ⟨[],?_⟩
 try cbv
 refine call_pure hM hI (T86 _ hr) rfl ?_
 clear hr
 try cbv
 refine⟨false,?_⟩
 try cbv
 refine⟨true,?_⟩
 try cbv
 replace h:=appF_inv h
 obtain⟨l19,hb,hz,h⟩:=h
 refine⟨false,?_⟩
 try cbv
 first | refine⟨rfl,(M.lock_iff _).2 hb,l19,hz,?_⟩ | refine⟨(M.lock_iff _).2 hb,l19,hz,?_⟩
 clear hb hz
 try cbv
 refine drawn ?_ ?_
 ·show _=true
  kernel_rfl
 try cbv
 replace h:=letF_inv h
 obtain⟨z20,hz,h⟩:=h
 refine⟨z20,hz,?_⟩
 clear hz
 try cbv
 exact loop_next (m2,(l19,z20)) [0,2,3,4] [.loc 96] 128 ⟨by omega,h⟩ (Nat.lt_succ_of_le (by omega)) (by cbv)
def F126 (n:Nat) (s1:ByteArray) (l2:List D):Option (ByteArray×List D):=
 appF 16 ([]:List D) l2 fun l3=>some (s1,l3)
theorem T126 (n:Nat):∀⦃s1:ByteArray⦄ ⦃l2:List D⦄ ⦃r1:ByteArray⦄ ⦃r2:List D⦄,F126 n s1 l2=some (r1,r2)→
    Trip Try.prog inv 126 [.d (.agg [.str s1,.list false 1 l2])] [] (.v (.d (.agg [.str r1,.list false 1 r2]))) [] []:=by
 intro s1 l2 r1 r2 h
 unfold F126 at h
 refine Trip.of tab_ok tab_one fol Try.func126 rfl (by kernel_rfl) rfl rfl rfl (fun M hM hI=>?_)
 try cbv
 refine seq_go ?_
 try cbv
 refine seq_go ?_
 try cbv
 refine seq_go ?_
 try cbv
 refine seq_go ?_
 try cbv
 replace h:=appF_inv h
 obtain⟨l3,hb,hz,h⟩:=h
 refine⟨false,?_⟩
 try cbv
 refine⟨(M.lock_iff _).2 hb,l3,hz,true,.inl rfl,?_⟩
 clear hb hz
 try cbv
 refine seq_go ?_
 try cbv
 obtain⟨rfl,rfl⟩:=inj2 h
 refine fin_go ?_
 try cbv
 exact⟨[],rfl,rfl,trivial,trivial,trivial⟩
mutual
def L88_1:Nat→Int→Int→ByteArray→ByteArray→(List D)→Int→Bool→ByteArray→(List D)→Int→(List D)→Option (Int×Int×ByteArray×ByteArray×ByteArray×List D×List D×Int)
 | 0,_,_,_,_,_,_,_,_,_,_,_=>none
 | n+1,z1,z2,s3,s4,l7,z8,b9,s10,l11,z12,l13=>
  lenF l7 fun z14=>(if z12<z14 then L88_2 n z1 z2 s3 s4 l7 z8 b9 s10 l11 z12 l13 true else L88_2 n z1 z2 s3 s4 l7 z8 b9 s10 l11 z12 l13 false)
def L88_2:Nat→Int→Int→ByteArray→ByteArray→(List D)→Int→Bool→ByteArray→(List D)→Int→(List D)→Bool→Option (Int×Int×ByteArray×ByteArray×ByteArray×List D×List D×Int)
 | 0,_,_,_,_,_,_,_,_,_,_,_,_=>none
 | n+1,z1,z2,s3,s4,l7,z8,b9,s10,l11,z12,l13,b15=>
  (if b15=true then getF l7 z12 fun x16=>ds_t33 x16 fun z17 z18 s19 s20 s21 l22 l23 z24=>bO8 (F88 n z17 z18 s19 s20 s21 l22 l23 z24 b9) fun z25 z26 s27 s28 s29 l30 l31 z32=>appF 120 l13 ([.agg [.int .u8 z25,.int .i64 z26,.str s27,.str s28,.str s29,.list false 1 l30,.list true 8 l31,.int .i64 z32]]) fun l33=>letF (IntKind.wrap .i64 (z12+1)) fun z34=>L88_1 n z1 z2 s3 s4 l7 z8 b9 s10 l11 z34 l33 else letB (!b9) fun b35=>(if b35=true then L88_3 n z1 z2 s3 s4 s10 l11 l13 (0:Int)else L88_3 n z1 z2 s3 s4 s10 l11 l13 z8))
def L88_3:Nat→Int→Int→ByteArray→ByteArray→ByteArray→(List D)→(List D)→Int→Option (Int×Int×ByteArray×ByteArray×ByteArray×List D×List D×Int)
 | 0,_,_,_,_,_,_,_,_=>none
 | n+1,z1,z2,s3,s4,s10,l11,l13,z36=>
  some (z1,z2,s3,s4,s10,l11,l13,z36)
def F88:Nat→Int→Int→ByteArray→ByteArray→ByteArray→(List D)→(List D)→Int→Bool→Option (Int×Int×ByteArray×ByteArray×ByteArray×List D×List D×Int)
 | 0,_,_,_,_,_,_,_,_,_=>none
 | n+1,z1,z2,s3,s4,s5,l6,l7,z8,b9=>
  bO2 (F126 n s5 l6) fun s10 l11=>L88_1 n z1 z2 s3 s4 l7 z8 b9 s10 l11 (0:Int) ([]:List D)
end
theorem T88 (n:Nat):∀⦃z1:Int⦄ ⦃z2:Int⦄ ⦃s3:ByteArray⦄ ⦃s4:ByteArray⦄ ⦃s5:ByteArray⦄ ⦃l6:List D⦄ ⦃l7:List D⦄ ⦃z8:Int⦄ ⦃b9:Bool⦄ ⦃r1:Int⦄ ⦃r2:Int⦄ ⦃r3:ByteArray⦄ ⦃r4:ByteArray⦄ ⦃r5:ByteArray⦄ ⦃r6:List D⦄ ⦃r7:List D⦄ ⦃r8:Int⦄,F88 n z1 z2 s3 s4 s5 l6 l7 z8 b9=some (r1,r2,r3,r4,r5,r6,r7,r8)→
    Trip Try.prog inv 88 [.d (.agg [.int .u8 z1,.int .i64 z2,.str s3,.str s4,.str s5,.list false 1 l6,.list true 8 l7,.int .i64 z8]),.d (.bool b9)] [] (.v (.d (.agg [.int .u8 r1,.int .i64 r2,.str r3,.str r4,.str r5,.list false 1 r6,.list true 8 r7,.int .i64 r8]))) [] []:=by
 induction n using Nat.strongRecOn with | _ n ih=>
 obtain _ | n:=n
 ·intro z1 z2 s3 s4 s5 l6 l7 z8 b9 r1 r2 r3 r4 r5 r6 r7 r8 h
  cases (show (none:Option _)=some _ from h)
 intro z1 z2 s3 s4 s5 l6 l7 z8 b9 r1 r2 r3 r4 r5 r6 r7 r8 h
 rw[F88]at h
 refine Trip.of tab_ok tab_one fol Try.func88 rfl (by kernel_rfl) rfl rfl rfl (fun M hM hI=>?_)
 try cbv
 refine seq_go ?_
 try cbv
 refine seq_go ?_
 try cbv
 refine seq_go ?_
 try cbv
 replace h:=bO2_inv h
 obtain⟨s10,l11,hr,h⟩:=h
 refine call_go rfl rfl ?_
 try cbv
 refine call_pure hM hI (T126 _ hr) rfl ?_
 clear hr
 try cbv
 refine seq_go ?_
 try cbv
 refine seq_go ?_
 try cbv
 refine seq_go ?_
 try cbv
 refine loop_invT (T:=Nat×Int×List D) [.cell (.loc 96) 6 true 8 33] [1,2,4,5,6] [.loc 0,.loc 32,.loc 96,.loc 416] 448 (fun t=>⟨[(1,.v (.d (.bool b9))),(2,.v (.c (.ptr (.loc 0) 0))),(4,.v (.c (.ptr (.loc 32) 0))),(5,.v (.c (.ptr (.loc 96) 0))),(6,.v (.d (.int .i64 t.2.1)))],[(.loc 0,.cells [.d (.int .u8 z1),.d (.int .i64 z2),.d (.str s3),.d (.str s4),.d (.str s5),.d (.list false 1 l6),.d (.list true 8 l7),.d (.int .i64 z8)]),(.loc 32,.cells [.d (.int .u8 0),.d (.int .i64 0),.d (.str ByteArray.empty),.d (.str ByteArray.empty),.d (.str ByteArray.empty),.nils false 1,.nils true 8,.d (.int .i64 0)]),(.loc 96,.cells [.d (.int .u8 z1),.d (.int .i64 z2),.d (.str s3),.d (.str s4),.d (.str s10),.d (.list false 1 l11),.lst (.loc 416) true 8 t.2.2,.d (.int .i64 z8)]),(.loc 416,.tok t.2.2.length 8 33)],448⟩)
   (fun t=>t.1≤n∧L88_1 t.1 z1 z2 s3 s4 l7 z8 b9 s10 l11 t.2.1 t.2.2=some (r1,r2,r3,r4,r5,r6,r7,r8)) (fun t=>t.1) (n,((0:Int),([]:List D))) ⟨Nat.le_refl _,h⟩ (by cbv) ?_
 clear h
 rintro⟨m1,z12,l13⟩ ⟨hm1,h⟩
 replace hm1:m1≤n:=hm1
 obtain _ | m1:=m1
 ·replace h:L88_1 0 z1 z2 s3 s4 l7 z8 b9 s10 l11 z12 l13=some (r1,r2,r3,r4,r5,r6,r7,r8):=h
  rw[L88_1]at h
  cases h
 replace h:L88_1 (m1+1) z1 z2 s3 s4 l7 z8 b9 s10 l11 z12 l13=some (r1,r2,r3,r4,r5,r6,r7,r8):=h
 rw[L88_1]at h
 try cbv
 refine seq_go ?_
 try cbv
 refine seq_join (T:=Nat×Bool) (fun t=>⟨[(1,.v (.d (.bool b9))),(2,.v (.c (.ptr (.loc 0) 0))),(4,.v (.c (.ptr (.loc 32) 0))),(5,.v (.c (.ptr (.loc 96) 0))),(6,.v (.d (.int .i64 z12))),(17,.v (.d (.bool t.2)))],[(.loc 0,.cells [.d (.int .u8 z1),.d (.int .i64 z2),.d (.str s3),.d (.str s4),.d (.str s5),.d (.list false 1 l6),.d (.list true 8 l7),.d (.int .i64 z8)]),(.loc 32,.cells [.d (.int .u8 0),.d (.int .i64 0),.d (.str ByteArray.empty),.d (.str ByteArray.empty),.d (.str ByteArray.empty),.nils false 1,.nils true 8,.d (.int .i64 0)]),(.loc 96,.cells [.d (.int .u8 z1),.d (.int .i64 z2),.d (.str s3),.d (.str s4),.d (.str s10),.d (.list false 1 l11),.lst (.loc 416) true 8 l13,.d (.int .i64 z8)]),(.loc 416,.tok l13.length 8 33)],608⟩) (fun t=>t.1≤m1∧L88_2 t.1 z1 z2 s3 s4 l7 z8 b9 s10 l11 z12 l13 t.2=some (r1,r2,r3,r4,r5,r6,r7,r8)) ?_ ?_
 ·try cbv
  replace h:=lenF_inv M h
  obtain⟨z14,hz,h⟩:=h
  refine⟨z14,hz,?_⟩
  clear hz
  try cbv
  refine splitL (fun e=>?_) (fun e=>?_)
  ·replace h:=ite_t e h
   clear e
   try cbv
   exact join_next (m1,true) [1,2,4,5,6,17] [.loc 0,.loc 32,.loc 96,.loc 416] 608 ⟨by omega,h⟩ (by cbv)
  replace h:=ite_f (Int.not_lt.2 e) h
  clear e
  try cbv
  exact join_next (m1,false) [1,2,4,5,6,17] [.loc 0,.loc 32,.loc 96,.loc 416] 608 ⟨by omega,h⟩ (by cbv)
 clear h
 rintro⟨m2,b15⟩ ⟨hm2,h⟩
 replace hm2:m2≤m1:=hm2
 obtain _ | m2:=m2
 ·replace h:L88_2 0 z1 z2 s3 s4 l7 z8 b9 s10 l11 z12 l13 b15=some (r1,r2,r3,r4,r5,r6,r7,r8):=h
  rw[L88_2]at h
  cases h
 replace h:L88_2 (m2+1) z1 z2 s3 s4 l7 z8 b9 s10 l11 z12 l13 b15=some (r1,r2,r3,r4,r5,r6,r7,r8):=h
 rw[L88_2]at h
 try cbv
 cases b15
 ·replace h:=ite_f Bool.false_ne_true h
  try cbv
  refine seq_join (T:=Nat×Int) (fun t=>⟨[(4,.v (.c (.ptr (.loc 32) 0))),(5,.v (.c (.ptr (.loc 96) 0)))],[(.loc 32,.cells [.d (.int .u8 0),.d (.int .i64 0),.d (.str ByteArray.empty),.d (.str ByteArray.empty),.d (.str ByteArray.empty),.nils false 1,.nils true 8,.d (.int .i64 0)]),(.loc 96,.cells [.d (.int .u8 z1),.d (.int .i64 z2),.d (.str s3),.d (.str s4),.d (.str s10),.d (.list false 1 l11),.lst (.loc 416) true 8 l13,.d (.int .i64 t.2)]),(.loc 416,.tok l13.length 8 33)],736⟩) (fun t=>t.1≤m2∧L88_3 t.1 z1 z2 s3 s4 s10 l11 l13 t.2=some (r1,r2,r3,r4,r5,r6,r7,r8)) ?_ ?_
  ·try cbv
   refine seq_go ?_
   try cbv
   replace h:=letB_inv h
   obtain⟨b35,hz,h⟩:=h
   refine⟨b35,not_eq' hz,?_⟩
   clear hz
   try cbv
   cases b35
   ·replace h:=ite_f Bool.false_ne_true h
    try cbv
    exact join_next (m2,z8) [4,5] [.loc 32,.loc 96,.loc 416] 736 ⟨by omega,h⟩ (by cbv)
   replace h:=ite_t rfl h
   try cbv
   exact join_next (m2,(0:Int)) [4,5] [.loc 32,.loc 96,.loc 416] 736 ⟨by omega,h⟩ (by cbv)
  clear h
  rintro⟨m3,z36⟩ ⟨hm3,h⟩
  replace hm3:m3≤m2:=hm3
  obtain _ | m3:=m3
  ·replace h:L88_3 0 z1 z2 s3 s4 s10 l11 l13 z36=some (r1,r2,r3,r4,r5,r6,r7,r8):=h
   rw[L88_3]at h
   cases h
  replace h:L88_3 (m3+1) z1 z2 s3 s4 s10 l11 l13 z36=some (r1,r2,r3,r4,r5,r6,r7,r8):=h
  rw[L88_3]at h
  try cbv
  refine seq_go ?_
  try cbv
  obtain⟨rfl,rfl,rfl,rfl,rfl,rfl,rfl,rfl⟩:=inj8 h
  refine fin_go ?_
  try cbv
  exact⟨[],rfl,rfl,trivial,trivial,trivial⟩
 replace h:=ite_t rfl h
 try cbv
 refine seq_go ?_
 try cbv
 replace h:=getF_inv h
 obtain⟨x16,⟨hx0,hx⟩,h⟩:=h
 refine⟨x16,hx0,hx,?_⟩
 clear hx0 hx
 replace h:=ds_t33_inv h
 obtain⟨z17,z18,s19,s20,s21,l22,l23,z24,rfl,h⟩:=h
 try cbv
 replace h:=bO8_inv h
 obtain⟨z25,z26,s27,s28,s29,l30,l31,z32,hr,h⟩:=h
 first | refine .inr (.inl ⟨[],?_⟩) | refine .inl ⟨[],?_⟩
 try cbv
 refine call_pure hM hI ((ih _ (by omega)) hr) rfl ?_
 clear hr
 try cbv
 refine⟨false,?_⟩
 try cbv
 refine⟨true,?_⟩
 try cbv
 replace h:=appF_inv h
 obtain⟨l33,hb,hz,h⟩:=h
 refine⟨false,?_⟩
 try cbv
 first | refine⟨rfl,(M.lock_iff _).2 hb,l33,hz,?_⟩ | refine⟨(M.lock_iff _).2 hb,l33,hz,?_⟩
 clear hb hz
 try cbv
 refine drawn ?_ ?_
 ·show _=true
  kernel_rfl
 try cbv
 replace h:=letF_inv h
 obtain⟨z34,hz,h⟩:=h
 refine⟨z34,hz,?_⟩
 clear hz
 try cbv
 exact loop_next (m2,(z34,l33)) [1,2,4,5,6] [.loc 0,.loc 32,.loc 96,.loc 416] 448 ⟨by omega,h⟩ (Nat.lt_succ_of_le (by omega)) (by cbv)
mutual
def L87_1:Nat→(List D)→Bool→(List D)→Int→Option (List D)
 | 0,_,_,_,_=>none
 | n+1,l1,b2,l3,z4=>
  lenF l1 fun z5=>(if z4<z5 then L87_2 n l1 b2 l3 z4 true else L87_2 n l1 b2 l3 z4 false)
def L87_2:Nat→(List D)→Bool→(List D)→Int→Bool→Option (List D)
 | 0,_,_,_,_,_=>none
 | n+1,l1,b2,l3,z4,b6=>
  (if b6=true then getF l1 z4 fun x7=>ds_t152 x7 fun z8 s9 s10 l11 z12 s13 l14 z15 s16 l17 l18 l19 l20 l21 z22=>getF l1 z4 fun x23=>ds_t152 x23 fun z24 s25 s26 l27 z28 s29 l30 z31 s32 l33 l34 l35 l36 l37 z38=>appF 16 ([]:List D) l27 fun l39=>getF l1 z4 fun x40=>ds_t152 x40 fun z41 s42 s43 l44 z45 s46 l47 z48 s49 l50 l51 l52 l53 l54 z55=>bO3 (F86 n z45 s46 l47) fun z56 s57 l58=>getF l1 z4 fun x59=>ds_t152 x59 fun z60 s61 s62 l63 z64 s65 l66 z67 s68 l69 l70 l71 l72 l73 z74=>bO2 (F126 n s68 l69) fun s75 l76=>L87_3 n l1 b2 l3 z4 z8 s9 s10 z15 z22 l39 z56 s57 l58 s75 l76 (0:Int) ([]:List D)else some l3)
def L87_3:Nat→(List D)→Bool→(List D)→Int→Int→ByteArray→ByteArray→Int→Int→(List D)→Int→ByteArray→(List D)→ByteArray→(List D)→Int→(List D)→Option (List D)
 | 0,_,_,_,_,_,_,_,_,_,_,_,_,_,_,_,_,_=>none
 | n+1,l1,b2,l3,z4,z8,s9,s10,z15,z22,l39,z56,s57,l58,s75,l76,z77,l78=>
  getF l1 z4 fun x79=>ds_t152 x79 fun z80 s81 s82 l83 z84 s85 l86 z87 s88 l89 l90 l91 l92 l93 z94=>lenF l90 fun z95=>(if z77<z95 then L87_4 n l1 b2 l3 z4 z8 s9 s10 z15 z22 l39 z56 s57 l58 s75 l76 z77 l78 true else L87_4 n l1 b2 l3 z4 z8 s9 s10 z15 z22 l39 z56 s57 l58 s75 l76 z77 l78 false)
def L87_4:Nat→(List D)→Bool→(List D)→Int→Int→ByteArray→ByteArray→Int→Int→(List D)→Int→ByteArray→(List D)→ByteArray→(List D)→Int→(List D)→Bool→Option (List D)
 | 0,_,_,_,_,_,_,_,_,_,_,_,_,_,_,_,_,_,_=>none
 | n+1,l1,b2,l3,z4,z8,s9,s10,z15,z22,l39,z56,s57,l58,s75,l76,z77,l78,b96=>
  (if b96=true then getF l1 z4 fun x97=>ds_t152 x97 fun z98 s99 s100 l101 z102 s103 l104 z105 s106 l107 l108 l109 l110 l111 z112=>getF l108 z77 fun x113=>ds_t33 x113 fun z114 z115 s116 s117 s118 l119 l120 z121=>bO8 (F88 n z114 z115 s116 s117 s118 l119 l120 z121 b2) fun z122 z123 s124 s125 s126 l127 l128 z129=>appF 120 l78 ([.agg [.int .u8 z122,.int .i64 z123,.str s124,.str s125,.str s126,.list false 1 l127,.list true 8 l128,.int .i64 z129]]) fun l130=>letF (IntKind.wrap .i64 (z77+1)) fun z131=>L87_3 n l1 b2 l3 z4 z8 s9 s10 z15 z22 l39 z56 s57 l58 s75 l76 z131 l130 else getF l1 z4 fun x132=>ds_t152 x132 fun z133 s134 s135 l136 z137 s138 l139 z140 s141 l142 l143 l144 l145 l146 z147=>bO1 (F87 n l144 b2) fun l148=>getF l1 z4 fun x149=>ds_t152 x149 fun z150 s151 s152 l153 z154 s155 l156 z157 s158 l159 l160 l161 l162 l163 z164=>bO1 (F87 n l162 b2) fun l165=>L87_5 n l1 b2 l3 z4 z8 s9 s10 z15 z22 l39 z56 s57 l58 s75 l76 l78 l148 l165 (0:Int) ([]:List D))
def L87_5:Nat→(List D)→Bool→(List D)→Int→Int→ByteArray→ByteArray→Int→Int→(List D)→Int→ByteArray→(List D)→ByteArray→(List D)→(List D)→(List D)→(List D)→Int→(List D)→Option (List D)
 | 0,_,_,_,_,_,_,_,_,_,_,_,_,_,_,_,_,_,_,_,_=>none
 | n+1,l1,b2,l3,z4,z8,s9,s10,z15,z22,l39,z56,s57,l58,s75,l76,l78,l148,l165,z166,l167=>
  getF l1 z4 fun x168=>ds_t152 x168 fun z169 s170 s171 l172 z173 s174 l175 z176 s177 l178 l179 l180 l181 l182 z183=>lenF l182 fun z184=>(if z166<z184 then L87_6 n l1 b2 l3 z4 z8 s9 s10 z15 z22 l39 z56 s57 l58 s75 l76 l78 l148 l165 z166 l167 true else L87_6 n l1 b2 l3 z4 z8 s9 s10 z15 z22 l39 z56 s57 l58 s75 l76 l78 l148 l165 z166 l167 false)
def L87_6:Nat→(List D)→Bool→(List D)→Int→Int→ByteArray→ByteArray→Int→Int→(List D)→Int→ByteArray→(List D)→ByteArray→(List D)→(List D)→(List D)→(List D)→Int→(List D)→Bool→Option (List D)
 | 0,_,_,_,_,_,_,_,_,_,_,_,_,_,_,_,_,_,_,_,_,_=>none
 | n+1,l1,b2,l3,z4,z8,s9,s10,z15,z22,l39,z56,s57,l58,s75,l76,l78,l148,l165,z166,l167,b185=>
  (if b185=true then getF l1 z4 fun x186=>ds_t152 x186 fun z187 s188 s189 l190 z191 s192 l193 z194 s195 l196 l197 l198 l199 l200 z201=>getF l200 z166 fun x202=>ds_t154 x202 fun s203 s204 l205=>bO1 (F87 n l205 b2) fun l206=>appF 56 l167 ([.agg [.str s203,.str s204,.list true 15 l206]]) fun l207=>letF (IntKind.wrap .i64 (z166+1)) fun z208=>L87_5 n l1 b2 l3 z4 z8 s9 s10 z15 z22 l39 z56 s57 l58 s75 l76 l78 l148 l165 z208 l207 else letB (!b2) fun b209=>(if b209=true then L87_7 n l1 b2 l3 z4 z8 s9 s10 z15 l39 z56 s57 l58 s75 l76 l78 l148 l165 l167 (0:Int)else L87_7 n l1 b2 l3 z4 z8 s9 s10 z15 l39 z56 s57 l58 s75 l76 l78 l148 l165 l167 z22))
def L87_7:Nat→(List D)→Bool→(List D)→Int→Int→ByteArray→ByteArray→Int→(List D)→Int→ByteArray→(List D)→ByteArray→(List D)→(List D)→(List D)→(List D)→(List D)→Int→Option (List D)
 | 0,_,_,_,_,_,_,_,_,_,_,_,_,_,_,_,_,_,_,_=>none
 | n+1,l1,b2,l3,z4,z8,s9,s10,z15,l39,z56,s57,l58,s75,l76,l78,l148,l165,l167,z210=>
  appF 264 l3 ([.agg [.int .u8 z8,.str s9,.str s10,.list false 1 l39,.int .u8 z56,.str s57,.list true 3 l58,.int .i64 z15,.str s75,.list false 1 l76,.list true 8 l78,.list true 15 l148,.list true 15 l165,.list true 3 l167,.int .i64 z210]]) fun l211=>letF (IntKind.wrap .i64 (z4+1)) fun z212=>L87_1 n l1 b2 l211 z212
def F87:Nat→(List D)→Bool→Option (List D)
 | 0,_,_=>none
 | n+1,l1,b2=>
  L87_1 n l1 b2 ([]:List D) (0:Int)
end
theorem T87 (n:Nat):∀⦃l1:List D⦄ ⦃b2:Bool⦄ ⦃r1:List D⦄,F87 n l1 b2=some r1→
    Trip Try.prog inv 87 [.d (.list true 15 l1),.d (.bool b2)] [] (.v (.d (.list true 15 r1))) [] []:=by
 induction n using Nat.strongRecOn with | _ n ih=>
 obtain _ | n:=n
 ·intro l1 b2 r1 h
  cases (show (none:Option _)=some _ from h)
 intro l1 b2 r1 h
 rw[F87]at h
 refine Trip.of tab_ok tab_one fol Try.func87 rfl (by kernel_rfl) rfl rfl rfl (fun M hM hI=>?_)
 try cbv
 refine seq_go ?_
 try cbv
 refine seq_go ?_
 try cbv
 refine seq_go ?_
 try cbv
 refine seq_go ?_
 try cbv
 refine loop_invT (T:=Nat×List D×Int) [.slot 5 true 15 152] [0,1,4,5,6] [.loc 96] 128 (fun t=>⟨[(0,.v (.d (.list true 15 l1))),(1,.v (.d (.bool b2))),(4,.v (.c (.nils true 15))),(5,.v (.c (.lst (.loc 96) true 15 t.2.1))),(6,.v (.d (.int .i64 t.2.2)))],[(.loc 96,.tok t.2.1.length 15 152)],128⟩)
   (fun t=>t.1≤n∧L87_1 t.1 l1 b2 t.2.1 t.2.2=some r1) (fun t=>t.1) (n,(([]:List D),(0:Int))) ⟨Nat.le_refl _,h⟩ (by cbv) ?_
 clear h
 rintro⟨m1,l3,z4⟩ ⟨hm1,h⟩
 replace hm1:m1≤n:=hm1
 obtain _ | m1:=m1
 ·replace h:L87_1 0 l1 b2 l3 z4=some r1:=h
  rw[L87_1]at h
  cases h
 replace h:L87_1 (m1+1) l1 b2 l3 z4=some r1:=h
 rw[L87_1]at h
 try cbv
 refine seq_go ?_
 try cbv
 refine seq_join (T:=Nat×Bool) (fun t=>⟨[(0,.v (.d (.list true 15 l1))),(1,.v (.d (.bool b2))),(4,.v (.c (.nils true 15))),(5,.v (.c (.lst (.loc 96) true 15 l3))),(6,.v (.d (.int .i64 z4))),(14,.v (.d (.bool t.2)))],[(.loc 96,.tok l3.length 15 152)],256⟩) (fun t=>t.1≤m1∧L87_2 t.1 l1 b2 l3 z4 t.2=some r1) ?_ ?_
 ·try cbv
  replace h:=lenF_inv M h
  obtain⟨z5,hz,h⟩:=h
  refine⟨z5,hz,?_⟩
  clear hz
  try cbv
  refine splitL (fun e=>?_) (fun e=>?_)
  ·replace h:=ite_t e h
   clear e
   try cbv
   exact join_next (m1,true) [0,1,4,5,6,14] [.loc 96] 256 ⟨by omega,h⟩ (by cbv)
  replace h:=ite_f (Int.not_lt.2 e) h
  clear e
  try cbv
  exact join_next (m1,false) [0,1,4,5,6,14] [.loc 96] 256 ⟨by omega,h⟩ (by cbv)
 clear h
 rintro⟨m2,b6⟩ ⟨hm2,h⟩
 replace hm2:m2≤m1:=hm2
 obtain _ | m2:=m2
 ·replace h:L87_2 0 l1 b2 l3 z4 b6=some r1:=h
  rw[L87_2]at h
  cases h
 replace h:L87_2 (m2+1) l1 b2 l3 z4 b6=some r1:=h
 rw[L87_2]at h
 try cbv
 cases b6
 ·replace h:=ite_f Bool.false_ne_true h
  try cbv
  refine seq_go ?_
  try cbv
  obtain rfl:=Option.some.inj h
  refine fin_go ?_
  try cbv
  exact⟨[],rfl,rfl,trivial,trivial,trivial⟩
 replace h:=ite_t rfl h
 try cbv
 refine seq_go ?_
 try cbv
 refine seq_go ?_
 try cbv
 replace h:=getF_inv h
 obtain⟨x7,⟨hx0,hx⟩,h⟩:=h
 refine⟨x7,hx0,hx,?_⟩
 clear hx0 hx
 replace h:=ds_t152_inv h
 obtain⟨z8,s9,s10,l11,z12,s13,l14,z15,s16,l17,l18,l19,l20,l21,z22,rfl,h⟩:=h
 try cbv
 refine seq_go ?_
 try cbv
 refine seq_go ?_
 try cbv
 replace h:=getF_inv h
 obtain⟨x23,⟨hx0,hx⟩,h⟩:=h
 refine⟨x23,hx0,hx,?_⟩
 clear hx0 hx
 replace h:=ds_t152_inv h
 obtain⟨z24,s25,s26,l27,z28,s29,l30,z31,s32,l33,l34,l35,l36,l37,z38,rfl,h⟩:=h
 try cbv
 replace h:=appF_inv h
 obtain⟨l39,hb,hz,h⟩:=h
 refine⟨false,?_⟩
 try cbv
 refine⟨(M.lock_iff _).2 hb,l39,hz,true,.inl rfl,?_⟩
 clear hb hz
 try cbv
 refine drawn ?_ ?_
 ·show _=true
  kernel_rfl
 try cbv
 refine seq_go ?_
 try cbv
 replace h:=getF_inv h
 obtain⟨x40,⟨hx0,hx⟩,h⟩:=h
 refine⟨x40,hx0,hx,?_⟩
 clear hx0 hx
 replace h:=ds_t152_inv h
 obtain⟨z41,s42,s43,l44,z45,s46,l47,z48,s49,l50,l51,l52,l53,l54,z55,rfl,h⟩:=h
 try cbv
 replace h:=bO3_inv h
 obtain⟨z56,s57,l58,hr,h⟩:=h
 first | refine .inr (.inl ⟨[],?_⟩) | refine .inl ⟨[],?_⟩
 try cbv
 refine call_pure hM hI (T86 _ hr) rfl ?_
 clear hr
 try cbv
 replace h:=getF_inv h
 obtain⟨x59,⟨hx0,hx⟩,h⟩:=h
 refine⟨x59,hx0,hx,?_⟩
 clear hx0 hx
 replace h:=ds_t152_inv h
 obtain⟨z60,s61,s62,l63,z64,s65,l66,z67,s68,l69,l70,l71,l72,l73,z74,rfl,h⟩:=h
 try cbv
 replace h:=bO2_inv h
 obtain⟨s75,l76,hr,h⟩:=h
 first | refine .inr (.inl ⟨[],?_⟩) | refine .inl ⟨[],?_⟩
 try cbv
 refine call_pure hM hI (T126 _ hr) rfl ?_
 clear hr
 try cbv
 refine drawn ?_ ?_
 ·show _=true
  kernel_rfl
 try cbv
 refine seq_go ?_
 try cbv
 refine seq_go ?_
 try cbv
 refine loop_invT (T:=Nat×Int×List D) [.cell (.loc 384) 10 true 8 33] [0,1,4,5,6,7,8] [.loc 96,.loc 384,.loc 864,.loc 1504] 1536 (fun t=>⟨[(0,.v (.d (.list true 15 l1))),(1,.v (.d (.bool b2))),(4,.v (.c (.nils true 15))),(5,.v (.c (.lst (.loc 96) true 15 l3))),(6,.v (.d (.int .i64 z4))),(7,.v (.c (.ptr (.loc 384) 0))),(8,.v (.d (.int .i64 t.2.1)))],[(.loc 96,.tok l3.length 15 152),(.loc 384,.cells [.d (.int .u8 z8),.d (.str s9),.d (.str s10),.lst (.loc 864) false 1 l39,.d (.int .u8 z56),.d (.str s57),.d (.list true 3 l58),.d (.int .i64 z15),.d (.str s75),.d (.list false 1 l76),.lst (.loc 1504) true 8 t.2.2,.d (.list true 15 l19),.d (.list true 15 l20),.nils true 3,.d (.int .i64 z22)]),(.loc 864,.tok l39.length 1 9),(.loc 1504,.tok t.2.2.length 8 33)],1536⟩)
   (fun t=>t.1≤m2∧L87_3 t.1 l1 b2 l3 z4 z8 s9 s10 z15 z22 l39 z56 s57 l58 s75 l76 t.2.1 t.2.2=some r1) (fun t=>t.1) (m2,((0:Int),([]:List D))) ⟨Nat.le_refl _,h⟩ (by cbv) ?_
 clear h
 rintro⟨m3,z77,l78⟩ ⟨hm3,h⟩
 replace hm3:m3≤m2:=hm3
 obtain _ | m3:=m3
 ·replace h:L87_3 0 l1 b2 l3 z4 z8 s9 s10 z15 z22 l39 z56 s57 l58 s75 l76 z77 l78=some r1:=h
  rw[L87_3]at h
  cases h
 replace h:L87_3 (m3+1) l1 b2 l3 z4 z8 s9 s10 z15 z22 l39 z56 s57 l58 s75 l76 z77 l78=some r1:=h
 rw[L87_3]at h
 try cbv
 refine seq_go ?_
 try cbv
 refine seq_join (T:=Nat×Bool) (fun t=>⟨[(0,.v (.d (.list true 15 l1))),(1,.v (.d (.bool b2))),(4,.v (.c (.nils true 15))),(5,.v (.c (.lst (.loc 96) true 15 l3))),(6,.v (.d (.int .i64 z4))),(7,.v (.c (.ptr (.loc 384) 0))),(8,.v (.d (.int .i64 z77))),(54,.v (.d (.bool t.2)))],[(.loc 96,.tok l3.length 15 152),(.loc 384,.cells [.d (.int .u8 z8),.d (.str s9),.d (.str s10),.lst (.loc 864) false 1 l39,.d (.int .u8 z56),.d (.str s57),.d (.list true 3 l58),.d (.int .i64 z15),.d (.str s75),.d (.list false 1 l76),.lst (.loc 1504) true 8 l78,.d (.list true 15 l19),.d (.list true 15 l20),.nils true 3,.d (.int .i64 z22)]),(.loc 864,.tok l39.length 1 9),(.loc 1504,.tok l78.length 8 33)],1792⟩) (fun t=>t.1≤m3∧L87_4 t.1 l1 b2 l3 z4 z8 s9 s10 z15 z22 l39 z56 s57 l58 s75 l76 z77 l78 t.2=some r1) ?_ ?_
 ·try cbv
  replace h:=getF_inv h
  obtain⟨x79,⟨hx0,hx⟩,h⟩:=h
  refine⟨x79,hx0,hx,?_⟩
  clear hx0 hx
  replace h:=ds_t152_inv h
  obtain⟨z80,s81,s82,l83,z84,s85,l86,z87,s88,l89,l90,l91,l92,l93,z94,rfl,h⟩:=h
  try cbv
  replace h:=lenF_inv M h
  obtain⟨z95,hz,h⟩:=h
  refine⟨z95,hz,?_⟩
  clear hz
  try cbv
  refine splitL (fun e=>?_) (fun e=>?_)
  ·replace h:=ite_t e h
   clear e
   try cbv
   exact join_next (m3,true) [0,1,4,5,6,7,8,54] [.loc 96,.loc 384,.loc 864,.loc 1504] 1792 ⟨by omega,h⟩ (by cbv)
  replace h:=ite_f (Int.not_lt.2 e) h
  clear e
  try cbv
  exact join_next (m3,false) [0,1,4,5,6,7,8,54] [.loc 96,.loc 384,.loc 864,.loc 1504] 1792 ⟨by omega,h⟩ (by cbv)
 clear h
 rintro⟨m4,b96⟩ ⟨hm4,h⟩
 replace hm4:m4≤m3:=hm4
 obtain _ | m4:=m4
 ·replace h:L87_4 0 l1 b2 l3 z4 z8 s9 s10 z15 z22 l39 z56 s57 l58 s75 l76 z77 l78 b96=some r1:=h
  rw[L87_4]at h
  cases h
 replace h:L87_4 (m4+1) l1 b2 l3 z4 z8 s9 s10 z15 z22 l39 z56 s57 l58 s75 l76 z77 l78 b96=some r1:=h
 rw[L87_4]at h
 try cbv
 cases b96
 rotate_left
 ·replace h:=ite_t rfl h
  try cbv
  refine seq_go ?_
  try cbv
  replace h:=getF_inv h
  obtain⟨x97,⟨hx0,hx⟩,h⟩:=h
  refine⟨x97,hx0,hx,?_⟩
  clear hx0 hx
  replace h:=ds_t152_inv h
  obtain⟨z98,s99,s100,l101,z102,s103,l104,z105,s106,l107,l108,l109,l110,l111,z112,rfl,h⟩:=h
  try cbv
  replace h:=getF_inv h
  obtain⟨x113,⟨hx0,hx⟩,h⟩:=h
  refine⟨x113,hx0,hx,?_⟩
  clear hx0 hx
  replace h:=ds_t33_inv h
  obtain⟨z114,z115,s116,s117,s118,l119,l120,z121,rfl,h⟩:=h
  try cbv
  replace h:=bO8_inv h
  obtain⟨z122,z123,s124,s125,s126,l127,l128,z129,hr,h⟩:=h
  first | refine .inr (.inl ⟨[],?_⟩) | refine .inl ⟨[],?_⟩
  try cbv
  refine call_pure hM hI (T88 _ hr) rfl ?_
  clear hr
  try cbv
  refine⟨false,?_⟩
  try cbv
  refine⟨true,?_⟩
  try cbv
  replace h:=appF_inv h
  obtain⟨l130,hb,hz,h⟩:=h
  refine⟨false,?_⟩
  try cbv
  first | refine⟨rfl,(M.lock_iff _).2 hb,l130,hz,?_⟩ | refine⟨(M.lock_iff _).2 hb,l130,hz,?_⟩
  clear hb hz
  try cbv
  refine drawn ?_ ?_
  ·show _=true
   kernel_rfl
  try cbv
  replace h:=letF_inv h
  obtain⟨z131,hz,h⟩:=h
  refine⟨z131,hz,?_⟩
  clear hz
  try cbv
  exact loop_next (m4,(z131,l130)) [0,1,4,5,6,7,8] [.loc 96,.loc 384,.loc 864,.loc 1504] 1536 ⟨by omega,h⟩ (Nat.lt_succ_of_le (by omega)) (by cbv)
 replace h:=ite_f Bool.false_ne_true h
 try cbv
 refine seq_go ?_
 try cbv
 replace h:=getF_inv h
 obtain⟨x132,⟨hx0,hx⟩,h⟩:=h
 refine⟨x132,hx0,hx,?_⟩
 clear hx0 hx
 replace h:=ds_t152_inv h
 obtain⟨z133,s134,s135,l136,z137,s138,l139,z140,s141,l142,l143,l144,l145,l146,z147,rfl,h⟩:=h
 try cbv
 replace h:=bO1_inv h
 obtain⟨l148,hr,h⟩:=h
 first | refine .inr (.inl ⟨[],?_⟩) | refine .inl ⟨[],?_⟩
 try cbv
 refine call_pure hM hI ((ih _ (by omega)) hr) rfl ?_
 clear hr
 try cbv
 replace h:=getF_inv h
 obtain⟨x149,⟨hx0,hx⟩,h⟩:=h
 refine⟨x149,hx0,hx,?_⟩
 clear hx0 hx
 replace h:=ds_t152_inv h
 obtain⟨z150,s151,s152,l153,z154,s155,l156,z157,s158,l159,l160,l161,l162,l163,z164,rfl,h⟩:=h
 try cbv
 replace h:=bO1_inv h
 obtain⟨l165,hr,h⟩:=h
 first | refine .inr (.inl ⟨[],?_⟩) | refine .inl ⟨[],?_⟩
 try cbv
 refine call_pure hM hI ((ih _ (by omega)) hr) rfl ?_
 clear hr
 try cbv
 refine drawn ?_ ?_
 ·show _=true
  kernel_rfl
 try cbv
 refine seq_go ?_
 try cbv
 refine seq_go ?_
 try cbv
 refine loop_invT (T:=Nat×Int×List D) [.cell (.loc 384) 13 true 3 154] [0,1,4,5,6,7,8,9] [.loc 96,.loc 384,.loc 864,.loc 1504,.loc 2400] 2432 (fun t=>⟨[(0,.v (.d (.list true 15 l1))),(1,.v (.d (.bool b2))),(4,.v (.c (.nils true 15))),(5,.v (.c (.lst (.loc 96) true 15 l3))),(6,.v (.d (.int .i64 z4))),(7,.v (.c (.ptr (.loc 384) 0))),(8,.v (.d (.int .i64 z77))),(9,.v (.d (.int .i64 t.2.1)))],[(.loc 96,.tok l3.length 15 152),(.loc 384,.cells [.d (.int .u8 z8),.d (.str s9),.d (.str s10),.lst (.loc 864) false 1 l39,.d (.int .u8 z56),.d (.str s57),.d (.list true 3 l58),.d (.int .i64 z15),.d (.str s75),.d (.list false 1 l76),.lst (.loc 1504) true 8 l78,.d (.list true 15 l148),.d (.list true 15 l165),.lst (.loc 2400) true 3 t.2.2,.d (.int .i64 z22)]),(.loc 864,.tok l39.length 1 9),(.loc 1504,.tok l78.length 8 33),(.loc 2400,.tok t.2.2.length 3 154)],2432⟩)
   (fun t=>t.1≤m4∧L87_5 t.1 l1 b2 l3 z4 z8 s9 s10 z15 z22 l39 z56 s57 l58 s75 l76 l78 l148 l165 t.2.1 t.2.2=some r1) (fun t=>t.1) (m4,((0:Int),([]:List D))) ⟨Nat.le_refl _,h⟩ (by cbv) ?_
 clear h
 rintro⟨m5,z166,l167⟩ ⟨hm5,h⟩
 replace hm5:m5≤m4:=hm5
 obtain _ | m5:=m5
 ·replace h:L87_5 0 l1 b2 l3 z4 z8 s9 s10 z15 z22 l39 z56 s57 l58 s75 l76 l78 l148 l165 z166 l167=some r1:=h
  rw[L87_5]at h
  cases h
 replace h:L87_5 (m5+1) l1 b2 l3 z4 z8 s9 s10 z15 z22 l39 z56 s57 l58 s75 l76 l78 l148 l165 z166 l167=some r1:=h
 rw[L87_5]at h
 try cbv
 refine seq_go ?_
 try cbv
 refine seq_join (T:=Nat×Bool) (fun t=>⟨[(0,.v (.d (.list true 15 l1))),(1,.v (.d (.bool b2))),(4,.v (.c (.nils true 15))),(5,.v (.c (.lst (.loc 96) true 15 l3))),(6,.v (.d (.int .i64 z4))),(7,.v (.c (.ptr (.loc 384) 0))),(8,.v (.d (.int .i64 z77))),(9,.v (.d (.int .i64 z166))),(95,.v (.d (.bool t.2)))],[(.loc 96,.tok l3.length 15 152),(.loc 384,.cells [.d (.int .u8 z8),.d (.str s9),.d (.str s10),.lst (.loc 864) false 1 l39,.d (.int .u8 z56),.d (.str s57),.d (.list true 3 l58),.d (.int .i64 z15),.d (.str s75),.d (.list false 1 l76),.lst (.loc 1504) true 8 l78,.d (.list true 15 l148),.d (.list true 15 l165),.lst (.loc 2400) true 3 l167,.d (.int .i64 z22)]),(.loc 864,.tok l39.length 1 9),(.loc 1504,.tok l78.length 8 33),(.loc 2400,.tok l167.length 3 154)],2688⟩) (fun t=>t.1≤m5∧L87_6 t.1 l1 b2 l3 z4 z8 s9 s10 z15 z22 l39 z56 s57 l58 s75 l76 l78 l148 l165 z166 l167 t.2=some r1) ?_ ?_
 ·try cbv
  replace h:=getF_inv h
  obtain⟨x168,⟨hx0,hx⟩,h⟩:=h
  refine⟨x168,hx0,hx,?_⟩
  clear hx0 hx
  replace h:=ds_t152_inv h
  obtain⟨z169,s170,s171,l172,z173,s174,l175,z176,s177,l178,l179,l180,l181,l182,z183,rfl,h⟩:=h
  try cbv
  replace h:=lenF_inv M h
  obtain⟨z184,hz,h⟩:=h
  refine⟨z184,hz,?_⟩
  clear hz
  try cbv
  refine splitL (fun e=>?_) (fun e=>?_)
  ·replace h:=ite_t e h
   clear e
   try cbv
   exact join_next (m5,true) [0,1,4,5,6,7,8,9,95] [.loc 96,.loc 384,.loc 864,.loc 1504,.loc 2400] 2688 ⟨by omega,h⟩ (by cbv)
  replace h:=ite_f (Int.not_lt.2 e) h
  clear e
  try cbv
  exact join_next (m5,false) [0,1,4,5,6,7,8,9,95] [.loc 96,.loc 384,.loc 864,.loc 1504,.loc 2400] 2688 ⟨by omega,h⟩ (by cbv)
 clear h
 rintro⟨m6,b185⟩ ⟨hm6,h⟩
 replace hm6:m6≤m5:=hm6
 obtain _ | m6:=m6
 ·replace h:L87_6 0 l1 b2 l3 z4 z8 s9 s10 z15 z22 l39 z56 s57 l58 s75 l76 l78 l148 l165 z166 l167 b185=some r1:=h
  rw[L87_6]at h
  cases h
 replace h:L87_6 (m6+1) l1 b2 l3 z4 z8 s9 s10 z15 z22 l39 z56 s57 l58 s75 l76 l78 l148 l165 z166 l167 b185=some r1:=h
 rw[L87_6]at h
 try cbv
 cases b185
 ·replace h:=ite_f Bool.false_ne_true h
  try cbv
  refine seq_join (T:=Nat×Int) (fun t=>⟨[(0,.v (.d (.list true 15 l1))),(1,.v (.d (.bool b2))),(4,.v (.c (.nils true 15))),(5,.v (.c (.lst (.loc 96) true 15 l3))),(6,.v (.d (.int .i64 z4))),(7,.v (.c (.ptr (.loc 384) 0))),(8,.v (.d (.int .i64 z77))),(9,.v (.d (.int .i64 z166)))],[(.loc 96,.tok l3.length 15 152),(.loc 384,.cells [.d (.int .u8 z8),.d (.str s9),.d (.str s10),.lst (.loc 864) false 1 l39,.d (.int .u8 z56),.d (.str s57),.d (.list true 3 l58),.d (.int .i64 z15),.d (.str s75),.d (.list false 1 l76),.lst (.loc 1504) true 8 l78,.d (.list true 15 l148),.d (.list true 15 l165),.lst (.loc 2400) true 3 l167,.d (.int .i64 t.2)]),(.loc 864,.tok l39.length 1 9),(.loc 1504,.tok l78.length 8 33),(.loc 2400,.tok l167.length 3 154)],2816⟩) (fun t=>t.1≤m6∧L87_7 t.1 l1 b2 l3 z4 z8 s9 s10 z15 l39 z56 s57 l58 s75 l76 l78 l148 l165 l167 t.2=some r1) ?_ ?_
  ·try cbv
   refine seq_go ?_
   try cbv
   replace h:=letB_inv h
   obtain⟨b209,hz,h⟩:=h
   refine⟨b209,not_eq' hz,?_⟩
   clear hz
   try cbv
   cases b209
   ·replace h:=ite_f Bool.false_ne_true h
    try cbv
    exact join_next (m6,z22) [0,1,4,5,6,7,8,9] [.loc 96,.loc 384,.loc 864,.loc 1504,.loc 2400] 2816 ⟨by omega,h⟩ (by cbv)
   replace h:=ite_t rfl h
   try cbv
   exact join_next (m6,(0:Int)) [0,1,4,5,6,7,8,9] [.loc 96,.loc 384,.loc 864,.loc 1504,.loc 2400] 2816 ⟨by omega,h⟩ (by cbv)
  clear h
  rintro⟨m7,z210⟩ ⟨hm7,h⟩
  replace hm7:m7≤m6:=hm7
  obtain _ | m7:=m7
  ·replace h:L87_7 0 l1 b2 l3 z4 z8 s9 s10 z15 l39 z56 s57 l58 s75 l76 l78 l148 l165 l167 z210=some r1:=h
   rw[L87_7]at h
   cases h
  replace h:L87_7 (m7+1) l1 b2 l3 z4 z8 s9 s10 z15 l39 z56 s57 l58 s75 l76 l78 l148 l165 l167 z210=some r1:=h
  rw[L87_7]at h
  try cbv
  refine⟨false,?_⟩
  try cbv
  refine⟨true,?_⟩
  try cbv
  replace h:=appF_inv h
  obtain⟨l211,hb,hz,h⟩:=h
  refine⟨false,?_⟩
  try cbv
  first | refine⟨rfl,(M.lock_iff _).2 hb,l211,hz,?_⟩ | refine⟨(M.lock_iff _).2 hb,l211,hz,?_⟩
  clear hb hz
  try cbv
  replace h:=letF_inv h
  obtain⟨z212,hz,h⟩:=h
  refine⟨z212,hz,?_⟩
  clear hz
  try cbv
  exact loop_next (m7,(l211,z212)) [0,1,4,5,6] [.loc 96] 128 ⟨by omega,h⟩ (Nat.lt_succ_of_le (by omega)) (by cbv)
 replace h:=ite_t rfl h
 try cbv
 refine seq_go ?_
 try cbv
 refine seq_go ?_
 try cbv
 replace h:=getF_inv h
 obtain⟨x186,⟨hx0,hx⟩,h⟩:=h
 refine⟨x186,hx0,hx,?_⟩
 clear hx0 hx
 replace h:=ds_t152_inv h
 obtain⟨z187,s188,s189,l190,z191,s192,l193,z194,s195,l196,l197,l198,l199,l200,z201,rfl,h⟩:=h
 try cbv
 replace h:=getF_inv h
 obtain⟨x202,⟨hx0,hx⟩,h⟩:=h
 refine⟨x202,hx0,hx,?_⟩
 clear hx0 hx
 replace h:=ds_t154_inv h
 obtain⟨s203,s204,l205,rfl,h⟩:=h
 try cbv
 refine seq_go ?_
 try cbv
 replace h:=bO1_inv h
 obtain⟨l206,hr,h⟩:=h
 refine call_go rfl rfl ?_
 try cbv
 refine call_pure hM hI ((ih _ (by omega)) hr) rfl ?_
 clear hr
 try cbv
 refine⟨false,?_⟩
 try cbv
 refine⟨true,?_⟩
 try cbv
 replace h:=appF_inv h
 obtain⟨l207,hb,hz,h⟩:=h
 refine⟨false,?_⟩
 try cbv
 first | refine⟨rfl,(M.lock_iff _).2 hb,l207,hz,?_⟩ | refine⟨(M.lock_iff _).2 hb,l207,hz,?_⟩
 clear hb hz
 try cbv
 replace h:=letF_inv h
 obtain⟨z208,hz,h⟩:=h
 refine⟨z208,hz,?_⟩
 clear hz
 try cbv
 exact loop_next (m6,(z208,l207)) [0,1,4,5,6,7,8,9] [.loc 96,.loc 384,.loc 864,.loc 1504,.loc 2400] 2432 ⟨by omega,h⟩ (Nat.lt_succ_of_le (by omega)) (by cbv)
mutual
def L24_1:Nat→(List D)→Bool→Int→(List D)→Option (List D)
 | 0,_,_,_,_=>none
 | n+1,l1,b2,z3,l4=>
  lenF l1 fun z5=>(if z3<z5 then L24_2 n l1 b2 z3 l4 true else L24_2 n l1 b2 z3 l4 false)
def L24_2:Nat→(List D)→Bool→Int→(List D)→Bool→Option (List D)
 | 0,_,_,_,_,_=>none
 | n+1,l1,b2,z3,l4,b6=>
  (if b6=true then getF l1 z3 fun x7=>ds_t126 x7 fun z8 s9 l10 z11 s12 l13 l14 z15 z16 s17 s18 s19 l20 l21 z22 z23=>bO1 (F85 n l10) fun l24=>bO3 (F86 n z11 s12 l13) fun z25 s26 l27=>bO1 (F87 n l14 b2) fun l28=>bO8 (F88 n z15 z16 s17 s18 s19 l20 l21 z22 b2) fun z29 z30 s31 s32 s33 l34 l35 z36=>letB (!b2) fun b37=>(if b37=true then L24_3 n l1 b2 z3 l4 z8 s9 l24 z25 s26 l27 l28 z29 z30 s31 s32 s33 l34 l35 z36 (0:Int)else L24_3 n l1 b2 z3 l4 z8 s9 l24 z25 s26 l27 l28 z29 z30 s31 s32 s33 l34 l35 z36 z23)else some l4)
def L24_3:Nat→(List D)→Bool→Int→(List D)→Int→ByteArray→(List D)→Int→ByteArray→(List D)→(List D)→Int→Int→ByteArray→ByteArray→ByteArray→(List D)→(List D)→Int→Int→Option (List D)
 | 0,_,_,_,_,_,_,_,_,_,_,_,_,_,_,_,_,_,_,_,_=>none
 | n+1,l1,b2,z3,l4,z8,s9,l24,z25,s26,l27,l28,z29,z30,s31,s32,s33,l34,l35,z36,z38=>
  appF 248 l4 ([.agg [.int .u8 z8,.str s9,.list true 4 l24,.int .u8 z25,.str s26,.list true 3 l27,.list true 15 l28,.int .u8 z29,.int .i64 z30,.str s31,.str s32,.str s33,.list false 1 l34,.list true 8 l35,.int .i64 z36,.int .i64 z38]]) fun l39=>letF (IntKind.wrap .i64 (z3+1)) fun z40=>L24_1 n l1 b2 z40 l39
end
def F24 (n:Nat) (l1:List D) (b2:Bool):Option (List D):=
 L24_1 n l1 b2 (0:Int) ([]:List D)
theorem T24 (n:Nat):∀⦃l1:List D⦄ ⦃b2:Bool⦄ ⦃r1:List D⦄,F24 n l1 b2=some r1→
    Trip Try.prog inv 24 [.d (.agg [.list true 16 l1]),.d (.bool b2)] [] (.v (.d (.agg [.list true 16 r1]))) [] []:=by
 intro l1 b2 r1 h
 unfold F24 at h
 refine Trip.of tab_ok tab_one fol Try.func24 rfl (by kernel_rfl) rfl rfl rfl (fun M hM hI=>?_)
 try cbv
 refine seq_go ?_
 try cbv
 refine seq_go ?_
 try cbv
 refine seq_go ?_
 try cbv
 refine seq_go ?_
 try cbv
 refine loop_invT (T:=Nat×Int×List D) [.cell (.loc 64) 0 true 16 126] [1,2,4,5,6] [.loc 0,.loc 32,.loc 64,.loc 128] 160 (fun t=>⟨[(1,.v (.d (.bool b2))),(2,.v (.c (.ptr (.loc 0) 0))),(4,.v (.c (.ptr (.loc 32) 0))),(5,.v (.c (.ptr (.loc 64) 0))),(6,.v (.d (.int .i64 t.2.1)))],[(.loc 0,.cells [.d (.list true 16 l1)]),(.loc 32,.cells [.nils true 16]),(.loc 64,.cells [.lst (.loc 128) true 16 t.2.2]),(.loc 128,.tok t.2.2.length 16 126)],160⟩)
   (fun t=>t.1≤n∧L24_1 t.1 l1 b2 t.2.1 t.2.2=some r1) (fun t=>t.1) (n,((0:Int),([]:List D))) ⟨Nat.le_refl _,h⟩ (by cbv) ?_
 clear h
 rintro⟨m1,z3,l4⟩ ⟨hm1,h⟩
 replace hm1:m1≤n:=hm1
 obtain _ | m1:=m1
 ·replace h:L24_1 0 l1 b2 z3 l4=some r1:=h
  rw[L24_1]at h
  cases h
 replace h:L24_1 (m1+1) l1 b2 z3 l4=some r1:=h
 rw[L24_1]at h
 try cbv
 refine seq_go ?_
 try cbv
 refine seq_join (T:=Nat×Bool) (fun t=>⟨[(1,.v (.d (.bool b2))),(2,.v (.c (.ptr (.loc 0) 0))),(4,.v (.c (.ptr (.loc 32) 0))),(5,.v (.c (.ptr (.loc 64) 0))),(6,.v (.d (.int .i64 z3))),(12,.v (.d (.bool t.2)))],[(.loc 0,.cells [.d (.list true 16 l1)]),(.loc 32,.cells [.nils true 16]),(.loc 64,.cells [.lst (.loc 128) true 16 l4]),(.loc 128,.tok l4.length 16 126)],320⟩) (fun t=>t.1≤m1∧L24_2 t.1 l1 b2 z3 l4 t.2=some r1) ?_ ?_
 ·try cbv
  replace h:=lenF_inv M h
  obtain⟨z5,hz,h⟩:=h
  refine⟨z5,hz,?_⟩
  clear hz
  try cbv
  refine splitL (fun e=>?_) (fun e=>?_)
  ·replace h:=ite_t e h
   clear e
   try cbv
   exact join_next (m1,true) [1,2,4,5,6,12] [.loc 0,.loc 32,.loc 64,.loc 128] 320 ⟨by omega,h⟩ (by cbv)
  replace h:=ite_f (Int.not_lt.2 e) h
  clear e
  try cbv
  exact join_next (m1,false) [1,2,4,5,6,12] [.loc 0,.loc 32,.loc 64,.loc 128] 320 ⟨by omega,h⟩ (by cbv)
 clear h
 rintro⟨m2,b6⟩ ⟨hm2,h⟩
 replace hm2:m2≤m1:=hm2
 obtain _ | m2:=m2
 ·replace h:L24_2 0 l1 b2 z3 l4 b6=some r1:=h
  rw[L24_2]at h
  cases h
 replace h:L24_2 (m2+1) l1 b2 z3 l4 b6=some r1:=h
 rw[L24_2]at h
 try cbv
 cases b6
 ·replace h:=ite_f Bool.false_ne_true h
  try cbv
  refine seq_go ?_
  try cbv
  obtain rfl:=Option.some.inj h
  refine fin_go ?_
  try cbv
  exact⟨[],rfl,rfl,trivial,trivial,trivial⟩
 replace h:=ite_t rfl h
 try cbv
 refine seq_go ?_
 try cbv
 refine seq_go ?_
 try cbv
 replace h:=getF_inv h
 obtain⟨x7,⟨hx0,hx⟩,h⟩:=h
 refine⟨x7,hx0,hx,?_⟩
 clear hx0 hx
 replace h:=ds_t126_inv h
 obtain⟨z8,s9,l10,z11,s12,l13,l14,z15,z16,s17,s18,s19,l20,l21,z22,z23,rfl,h⟩:=h
 try cbv
 refine seq_go ?_
 try cbv
 replace h:=bO1_inv h
 obtain⟨l24,hr,h⟩:=h
 first | refine .inr (.inl ⟨[],?_⟩) | refine .inl ⟨[],?_⟩
 try cbv
 refine call_pure hM hI (T85 _ hr) rfl ?_
 clear hr
 try cbv
 replace h:=bO3_inv h
 obtain⟨z25,s26,l27,hr,h⟩:=h
 first | refine .inr (.inl ⟨[],?_⟩) | refine .inl ⟨[],?_⟩
 try cbv
 refine call_pure hM hI (T86 _ hr) rfl ?_
 clear hr
 try cbv
 refine drawn ?_ ?_
 ·show _=true
  kernel_rfl
 try cbv
 refine seq_go ?_
 try cbv
 replace h:=bO1_inv h
 obtain⟨l28,hr,h⟩:=h
 first | refine .inr (.inl ⟨[],?_⟩) | refine .inl ⟨[],?_⟩
 try cbv
 refine call_pure hM hI (T87 _ hr) rfl ?_
 clear hr
 try cbv
 replace h:=bO8_inv h
 obtain⟨z29,z30,s31,s32,s33,l34,l35,z36,hr,h⟩:=h
 first | refine .inr (.inl ⟨[],?_⟩) | refine .inl ⟨[],?_⟩
 try cbv
 refine call_pure hM hI (T88 _ hr) rfl ?_
 clear hr
 try cbv
 refine drawn ?_ ?_
 ·show _=true
  kernel_rfl
 try cbv
 refine seq_join (T:=Nat×Int) (fun t=>⟨[(1,.v (.d (.bool b2))),(2,.v (.c (.ptr (.loc 0) 0))),(4,.v (.c (.ptr (.loc 32) 0))),(5,.v (.c (.ptr (.loc 64) 0))),(6,.v (.d (.int .i64 z3))),(7,.v (.c (.ptr (.loc 480) 0)))],[(.loc 0,.cells [.d (.list true 16 l1)]),(.loc 32,.cells [.nils true 16]),(.loc 64,.cells [.lst (.loc 128) true 16 l4]),(.loc 128,.tok l4.length 16 126),(.loc 480,.cells [.d (.int .u8 z8),.d (.str s9),.d (.list true 4 l24),.d (.int .u8 z25),.d (.str s26),.d (.list true 3 l27),.d (.list true 15 l28),.d (.int .u8 z29),.d (.int .i64 z30),.d (.str s31),.d (.str s32),.d (.str s33),.d (.list false 1 l34),.d (.list true 8 l35),.d (.int .i64 z36),.d (.int .i64 t.2)])],1376⟩) (fun t=>t.1≤m2∧L24_3 t.1 l1 b2 z3 l4 z8 s9 l24 z25 s26 l27 l28 z29 z30 s31 s32 s33 l34 l35 z36 t.2=some r1) ?_ ?_
 ·try cbv
  refine seq_go ?_
  try cbv
  replace h:=letB_inv h
  obtain⟨b37,hz,h⟩:=h
  refine⟨b37,not_eq' hz,?_⟩
  clear hz
  try cbv
  cases b37
  ·replace h:=ite_f Bool.false_ne_true h
   try cbv
   exact join_next (m2,z23) [1,2,4,5,6,7] [.loc 0,.loc 32,.loc 64,.loc 128,.loc 480] 1376 ⟨by omega,h⟩ (by cbv)
  replace h:=ite_t rfl h
  try cbv
  exact join_next (m2,(0:Int)) [1,2,4,5,6,7] [.loc 0,.loc 32,.loc 64,.loc 128,.loc 480] 1376 ⟨by omega,h⟩ (by cbv)
 clear h
 rintro⟨m3,z38⟩ ⟨hm3,h⟩
 replace hm3:m3≤m2:=hm3
 obtain _ | m3:=m3
 ·replace h:L24_3 0 l1 b2 z3 l4 z8 s9 l24 z25 s26 l27 l28 z29 z30 s31 s32 s33 l34 l35 z36 z38=some r1:=h
  rw[L24_3]at h
  cases h
 replace h:L24_3 (m3+1) l1 b2 z3 l4 z8 s9 l24 z25 s26 l27 l28 z29 z30 s31 s32 s33 l34 l35 z36 z38=some r1:=h
 rw[L24_3]at h
 try cbv
 refine⟨false,?_⟩
 try cbv
 refine⟨true,?_⟩
 try cbv
 replace h:=appF_inv h
 obtain⟨l39,hb,hz,h⟩:=h
 refine⟨false,?_⟩
 try cbv
 first | refine⟨rfl,(M.lock_iff _).2 hb,l39,hz,?_⟩ | refine⟨(M.lock_iff _).2 hb,l39,hz,?_⟩
 clear hb hz
 try cbv
 replace h:=letF_inv h
 obtain⟨z40,hz,h⟩:=h
 refine⟨z40,hz,?_⟩
 clear hz
 try cbv
 exact loop_next (m3,(z40,l39)) [1,2,4,5,6] [.loc 0,.loc 32,.loc 64,.loc 128] 160 ⟨by omega,h⟩ (Nat.lt_succ_of_le (by omega)) (by cbv)
mutual
def L128_1:Nat→(List D)→Int→Int→(List D)→Option (List D)
 | 0,_,_,_,_=>none
 | n+1,l1,z2,z3,l4=>
  (if z3<z2 then L128_2 n l1 z2 z3 l4 true else L128_2 n l1 z2 z3 l4 false)
def L128_2:Nat→(List D)→Int→Int→(List D)→Bool→Option (List D)
 | 0,_,_,_,_,_=>none
 | n+1,l1,z2,z3,l4,b5=>
  (if b5=true then getF l1 z3 fun x6=>ds_t27 x6 fun z7 s8 l9=>bO3 (F127 n z7 s8 l9) fun z10 s11 l12=>appF 48 l4 ([.agg [.int .u8 z10,.str s11,.list true 3 l12]]) fun l13=>letF (IntKind.wrap .i64 (z3+1)) fun z14=>L128_1 n l1 z2 z14 l13 else some l4)
def F128:Nat→(List D)→Option (List D)
 | 0,_=>none
 | n+1,l1=>
  lenF l1 fun z2=>L128_1 n l1 z2 (0:Int) ([]:List D)
def F127:Nat→Int→ByteArray→(List D)→Option (Int×ByteArray×List D)
 | 0,_,_,_=>none
 | n+1,z1,s2,l3=>
  bO1 (F128 n l3) fun l4=>some (z1,s2,l4)
end
theorem G128 (n:Nat):(∀⦃l1:List D⦄ ⦃r1:List D⦄,F128 n l1=some r1→
    Trip Try.prog inv 128 [.d (.list true 3 l1),.c (.fn 127 [.ext 0])] [.cells [.fn 127 [.ext 0]]] (.v (.c (.ow (.loc 0)))) [.cells [.fn 127 [.ext 0]]] [.tree .row true 3 r1 none])∧
    (∀⦃z1:Int⦄ ⦃s2:ByteArray⦄ ⦃l3:List D⦄ ⦃r1:Int⦄ ⦃r2:ByteArray⦄ ⦃r3:List D⦄,F127 n z1 s2 l3=some (r1,r2,r3)→
    Trip Try.prog inv 127 [.d (.agg [.int .u8 z1,.str s2,.list true 3 l3]),.c (.ptr (.ext 0) 0)] [.cells [.fn 127 [.ext 0]]] (.v (.agg [.d (.int .u8 r1),.d (.str r2),.ow (.loc 0)])) [.cells [.fn 127 [.ext 0]]] [.tree .row true 3 r3 none]):=by
 induction n using Nat.strongRecOn with | _ n ih=>
 obtain _ | n:=n
 ·refine⟨?_,?_⟩
  ·intro l1 r1 h
   cases (show (none:Option _)=some _ from h)
  intro z1 s2 l3 r1 r2 r3 h
  cases (show (none:Option _)=some _ from h)
 refine⟨?_,?_⟩
 rotate_left
 ·intro z1 s2 l3 r1 r2 r3 h
  rw[F127]at h
  refine Trip.of tab_ok tab_one fol Try.func127 rfl (by kernel_rfl) rfl rfl rfl (fun M hM hI=>?_)
  try cbv
  refine seq_go ?_
  try cbv
  refine seq_go ?_
  try cbv
  replace h:=bO1_inv h
  obtain⟨l4,hr,h⟩:=h
  refine call_go rfl rfl ?_
  try cbv
  refine call_with hM hI [.ext 0] ((ih _ (by omega)).1 hr) rfl (by simp) ⟨rfl,trivial⟩ ⟨trivial,trivial⟩ (by simp) ?_
  clear hr
  try cbv
  refine seq_go ?_
  try cbv
  obtain⟨rfl,rfl,rfl⟩:=inj3 h
  refine fin_go ?_
  try cbv
  exact⟨[.loc 160],rfl,rfl,⟨rfl,trivial⟩,⟨rfl,trivial⟩,trivial⟩
 intro l1 r1 h
 rw[F128]at h
 refine Trip.of tab_ok tab_one fol Try.func128 rfl (by kernel_rfl) rfl rfl rfl (fun M hM hI=>?_)
 try cbv
 refine seq_go ?_
 try cbv
 refine seq_go ?_
 try cbv
 refine seq_go ?_
 try cbv
 refine seq_go ?_
 try cbv
 replace h:=lenF_inv M h
 obtain⟨z2,hz,h⟩:=h
 refine⟨z2,hz,?_⟩
 clear hz
 try cbv
 refine loop_invG (T:=Nat×Int×List D) [.treeS 5 true 3] [] [1,4,5,8,9,10] [.ext 0,.loc 160] 192 (fun t=>⟨[(1,.v (.c (.fn 127 [.ext 0]))),(4,.v (.c (.nils true 3))),(5,.v (.c (.ow (.loc 160)))),(8,.v (.d (.list true 3 l1))),(9,.v (.d (.int .i64 z2))),(10,.v (.d (.int .i64 t.2.1)))],[(.ext 0,.cells [.fn 127 [.ext 0]]),(.loc 160,.tree .row true 3 t.2.2 none)],192⟩)
   (fun t=>t.1≤n∧L128_1 t.1 l1 z2 t.2.1 t.2.2=some r1) (fun t=>t.1) (n,((0:Int),([]:List D))) ⟨Nat.le_refl _,h⟩ (by cbv) ?_
 clear h
 rintro⟨m1,z3,l4⟩ ⟨hm1,h⟩
 replace hm1:m1≤n:=hm1
 obtain _ | m1:=m1
 ·replace h:L128_1 0 l1 z2 z3 l4=some r1:=h
  rw[L128_1]at h
  cases h
 replace h:L128_1 (m1+1) l1 z2 z3 l4=some r1:=h
 rw[L128_1]at h
 try cbv
 refine seq_join (T:=Nat×Bool) (fun t=>⟨[(1,.v (.c (.fn 127 [.ext 0]))),(4,.v (.c (.nils true 3))),(5,.v (.c (.ow (.loc 160)))),(8,.v (.d (.list true 3 l1))),(9,.v (.d (.int .i64 z2))),(10,.v (.d (.int .i64 z3))),(11,.v (.d (.bool t.2)))],[(.ext 0,.cells [.fn 127 [.ext 0]]),(.loc 160,.tree .row true 3 l4 none)],224⟩) (fun t=>t.1≤m1∧L128_2 t.1 l1 z2 z3 l4 t.2=some r1) ?_ ?_
 ·try cbv
  refine splitL (fun e=>?_) (fun e=>?_)
  ·replace h:=ite_t e h
   clear e
   try cbv
   exact join_next (m1,true) [1,4,5,8,9,10,11] [.ext 0,.loc 160] 224 ⟨by omega,h⟩ (by cbv)
  replace h:=ite_f (Int.not_lt.2 e) h
  clear e
  try cbv
  exact join_next (m1,false) [1,4,5,8,9,10,11] [.ext 0,.loc 160] 224 ⟨by omega,h⟩ (by cbv)
 clear h
 rintro⟨m2,b5⟩ ⟨hm2,h⟩
 replace hm2:m2≤m1:=hm2
 obtain _ | m2:=m2
 ·replace h:L128_2 0 l1 z2 z3 l4 b5=some r1:=h
  rw[L128_2]at h
  cases h
 replace h:L128_2 (m2+1) l1 z2 z3 l4 b5=some r1:=h
 rw[L128_2]at h
 try cbv
 refine seq_go ?_
 try cbv
 cases b5
 ·replace h:=ite_f Bool.false_ne_true h
  try cbv
  refine seq_go ?_
  try cbv
  obtain rfl:=Option.some.inj h
  refine fin_go ?_
  try cbv
  exact⟨[.loc 160],rfl,rfl,⟨rfl,trivial⟩,⟨rfl,trivial⟩,trivial⟩
 replace h:=ite_t rfl h
 try cbv
 refine seq_go ?_
 try cbv
 refine seq_go ?_
 try cbv
 replace h:=getF_inv h
 obtain⟨x6,⟨hx0,hx⟩,h⟩:=h
 refine⟨x6,hx0,hx,?_⟩
 clear hx0 hx
 replace h:=ds_t27_inv h
 obtain⟨z7,s8,l9,rfl,h⟩:=h
 try cbv
 replace h:=bO3_inv h
 obtain⟨z10,s11,l12,hr,h⟩:=h
 refine call_go rfl rfl ?_
 try cbv
 refine call_with hM hI [.ext 0] ((ih _ (by omega)).2 hr) rfl (by simp) ⟨rfl,trivial⟩ ⟨trivial,trivial⟩ (by simp) ?_
 clear hr
 try cbv
 refine⟨false,?_⟩
 try cbv
 refine⟨false,?_⟩
 try cbv
 refine op_pl ?_
 try cbv
 refine⟨true,?_⟩
 try cbv
 refine⟨true,?_⟩
 try cbv
 refine⟨[],?_⟩
 try cbv
 replace h:=appF_inv h
 obtain⟨l13,hb,hz,h⟩:=h
 refine⟨[.agg [.int .u8 z10,.str s11,.list true 3 l12]],rfl,?_⟩
 try cbv
 refine⟨(M.lock_iff _).2 hb,l13,hz,?_⟩
 clear hb hz
 try cbv
 replace h:=letF_inv h
 obtain⟨z14,hz,h⟩:=h
 refine⟨z14,hz,?_⟩
 clear hz
 try cbv
 refine loop_nextG (m2,(z14,l13)) [] [(512,160)] [1,4,5,8,9,10] [.ext 0,.loc 512] 192 ⟨by omega,h⟩ (Nat.lt_succ_of_le (by omega)) ?_
 try cbv
theorem T127 (n:Nat):∀⦃z1:Int⦄ ⦃s2:ByteArray⦄ ⦃l3:List D⦄ ⦃r1:Int⦄ ⦃r2:ByteArray⦄ ⦃r3:List D⦄,F127 n z1 s2 l3=some (r1,r2,r3)→
  Trip Try.prog inv 127 [.d (.agg [.int .u8 z1,.str s2,.list true 3 l3]),.c (.ptr (.ext 0) 0)] [.cells [.fn 127 [.ext 0]]] (.v (.agg [.d (.int .u8 r1),.d (.str r2),.ow (.loc 0)])) [.cells [.fn 127 [.ext 0]]] [.tree .row true 3 r3 none]:=(G128 n).2
def L130_1:Nat→(List D)→Bool→Option (List D)
 | 0,_,_=>none
 | n+1,l1,b2=>
  (if b2=true then some ([]:List D)else needF (scalB l1=true) (appF 16 ([]:List D) l1 fun l3=>some l3))
def F130 (n:Nat) (l1:List D):Option (List D):=
 (nilF l1 (L130_1 n l1 true) (L130_1 n l1 false))
theorem T130 (n:Nat):∀⦃l1:List D⦄ ⦃r1:List D⦄,F130 n l1=some r1→
    Trip Try.prog inv 130 [.d (.list false 1 l1)] [] (.v (.c (.ow (.loc 0)))) [] [.tree .row false 1 r1 none]:=by
 intro l1 r1 h
 unfold F130 at h
 refine Trip.of tab_ok tab_one fol Try.func130 rfl (by kernel_rfl) rfl rfl rfl (fun M hM hI=>?_)
 try cbv
 refine seq_go ?_
 try cbv
 refine seq_go ?_
 try cbv
 refine seq_join (T:=Nat×Bool) (fun t=>⟨[(0,.v (.d (.list false 1 l1))),(2,.v (.c (.nils false 1))),(4,.v (.d (.bool t.2)))],[],96⟩) (fun t=>t.1≤n∧L130_1 t.1 l1 t.2=some r1) ?_ ?_
 ·try cbv
  replace h:=nilF_inv h
  obtain⟨h,hA⟩:=h
  refine nil_both ?_ (fun e=>?_)
  ·clear hA
   try cbv
   exact join_next (n,false) [0,2,4] [] 96 ⟨by omega,h⟩ (by cbv)
  replace h:=hA e
  clear hA
  try cbv
  exact join_next (n,true) [0,2,4] [] 96 ⟨by omega,h⟩ (by cbv)
 clear h
 rintro⟨m1,b2⟩ ⟨hm1,h⟩
 replace hm1:m1≤n:=hm1
 obtain _ | m1:=m1
 ·replace h:L130_1 0 l1 b2=some r1:=h
  rw[L130_1]at h
  cases h
 replace h:L130_1 (m1+1) l1 b2=some r1:=h
 rw[L130_1]at h
 try cbv
 cases b2
 rotate_left
 ·replace h:=ite_t rfl h
  try cbv
  refine seq_go ?_
  try cbv
  obtain rfl:=Option.some.inj h
  refine⟨_,_,_,⟨rfl,rfl,rfl⟩,[.treeS 2 false 1],?_⟩
  try cbv
  exact⟨[.loc 128],rfl,rfl,trivial,⟨rfl,trivial⟩,trivial⟩
 replace h:=ite_f Bool.false_ne_true h
 try cbv
 refine seq_go ?_
 try cbv
 refine⟨true,?_⟩
 try cbv
 refine⟨[],?_⟩
 try cbv
 refine⟨[],rfl,?_⟩
 try cbv
 refine op_pl ?_
 try cbv
 refine⟨true,?_⟩
 try cbv
 refine⟨true,?_⟩
 try cbv
 refine⟨[],?_⟩
 try cbv
 replace h:=needF_inv h
 obtain⟨hs,h⟩:=h
 replace h:=appF_inv h
 obtain⟨l3,hb,hz,h⟩:=h
 refine⟨scalB_iff.1 hs,(M.lock_iff _).2 hb,l3,hz,?_⟩
 clear hs hb hz
 try cbv
 obtain rfl:=Option.some.inj h
 refine fin_go ?_
 try cbv
 exact⟨[.loc 160],rfl,rfl,trivial,⟨rfl,trivial⟩,trivial⟩
def F129 (n:Nat) (s1:ByteArray) (l2:List D):Option (ByteArray×List D):=
 bO1 (F130 n l2) fun l3=>some (s1,l3)
theorem T129 (n:Nat):∀⦃s1:ByteArray⦄ ⦃l2:List D⦄ ⦃r1:ByteArray⦄ ⦃r2:List D⦄,F129 n s1 l2=some (r1,r2)→
    Trip Try.prog inv 129 [.d (.agg [.str s1,.list false 1 l2])] [] (.v (.agg [.d (.str r1),.ow (.loc 0)])) [] [.tree .row false 1 r2 none]:=by
 intro s1 l2 r1 r2 h
 unfold F129 at h
 refine Trip.of tab_ok tab_one fol Try.func129 rfl (by kernel_rfl) rfl rfl rfl (fun M hM hI=>?_)
 try cbv
 refine seq_go ?_
 try cbv
 refine seq_go ?_
 try cbv
 replace h:=bO1_inv h
 obtain⟨l3,hr,h⟩:=h
 refine call_go rfl rfl ?_
 try cbv
 refine call_with hM hI [] (T130 _ hr) rfl (by simp) trivial trivial (by simp) ?_
 clear hr
 try cbv
 refine seq_go ?_
 try cbv
 obtain⟨rfl,rfl⟩:=inj2 h
 refine fin_go ?_
 try cbv
 exact⟨[.loc 128],rfl,rfl,trivial,⟨rfl,trivial⟩,trivial⟩
def F90 (n:Nat) (z1:Int):Option (Int):=
 some z1
theorem T90 (n:Nat):∀⦃z1:Int⦄ ⦃r1:Int⦄,F90 n z1=some r1→
    Trip Try.prog inv 90 [.d (.int .i64 z1)] [] (.v (.d (.int .i64 r1))) [] []:=by
 intro z1 r1 h
 unfold F90 at h
 refine Trip.of tab_ok tab_one fol Try.func90 rfl (by kernel_rfl) rfl rfl rfl (fun M hM hI=>?_)
 try cbv
 refine seq_go ?_
 try cbv
 refine seq_go ?_
 try cbv
 obtain rfl:=Option.some.inj h
 refine fin_go ?_
 try cbv
 exact⟨[],rfl,rfl,trivial,trivial,trivial⟩
mutual
def F131:Nat→Int→Int→ByteArray→ByteArray→ByteArray→(List D)→(List D)→Int→Option (Int×Int×ByteArray×ByteArray×ByteArray×Int×List D×List D)
 | 0,_,_,_,_,_,_,_,_=>none
 | n+1,z1,z2,s3,s4,s5,l6,l7,z8=>
  bO2 (F129 n s5 l6) fun s9 l10=>bO1 (F132 n l7) fun l11=>bO1 (F90 n z8) fun z12=>some (z1,z2,s3,s4,s9,z12,l10,l11)
def L132_1:Nat→(List D)→Int→Int→(List D)→Option (List D)
 | 0,_,_,_,_=>none
 | n+1,l1,z2,z3,l4=>
  (if z3<z2 then L132_2 n l1 z2 z3 l4 true else L132_2 n l1 z2 z3 l4 false)
def L132_2:Nat→(List D)→Int→Int→(List D)→Bool→Option (List D)
 | 0,_,_,_,_,_=>none
 | n+1,l1,z2,z3,l4,b5=>
  (if b5=true then getF l1 z3 fun x6=>ds_t33 x6 fun z7 z8 s9 s10 s11 l12 l13 z14=>bO8 (F131 n z7 z8 s9 s10 s11 l12 l13 z14) fun z15 z16 s17 s18 s19 z20 l21 l22=>appF 120 l4 ([.agg [.int .u8 z15,.int .i64 z16,.str s17,.str s18,.str s19,.list false 1 l21,.list true 8 l22,.int .i64 z20]]) fun l23=>letF (IntKind.wrap .i64 (z3+1)) fun z24=>L132_1 n l1 z2 z24 l23 else some l4)
def F132:Nat→(List D)→Option (List D)
 | 0,_=>none
 | n+1,l1=>
  lenF l1 fun z2=>L132_1 n l1 z2 (0:Int) ([]:List D)
end
theorem G131 (n:Nat):(∀⦃z1:Int⦄ ⦃z2:Int⦄ ⦃s3:ByteArray⦄ ⦃s4:ByteArray⦄ ⦃s5:ByteArray⦄ ⦃l6:List D⦄ ⦃l7:List D⦄ ⦃z8:Int⦄ ⦃r1:Int⦄ ⦃r2:Int⦄ ⦃r3:ByteArray⦄ ⦃r4:ByteArray⦄ ⦃r5:ByteArray⦄ ⦃r6:Int⦄ ⦃r7:List D⦄ ⦃r8:List D⦄,F131 n z1 z2 s3 s4 s5 l6 l7 z8=some (r1,r2,r3,r4,r5,r6,r7,r8)→
    Trip Try.prog inv 131 [.d (.agg [.int .u8 z1,.int .i64 z2,.str s3,.str s4,.str s5,.list false 1 l6,.list true 8 l7,.int .i64 z8]),.c (.ptr (.ext 0) 0),.c (.ptr (.ext 1) 0),.c (.ptr (.ext 2) 0)] [.cells [.fn 129 []],.cells [.fn 131 [.ext 0,.ext 1,.ext 2]],.cells [.fn 90 []]] (.v (.agg [.d (.int .u8 r1),.d (.int .i64 r2),.d (.str r3),.d (.str r4),.d (.str r5),.ow (.loc 0),.ow (.loc 1),.d (.int .i64 r6)])) [.cells [.fn 129 []],.cells [.fn 131 [.ext 0,.ext 1,.ext 2]],.cells [.fn 90 []]] [.tree .row false 1 r7 none,.tree .row true 8 r8 none])∧
    (∀⦃l1:List D⦄ ⦃r1:List D⦄,F132 n l1=some r1→
    Trip Try.prog inv 132 [.d (.list true 8 l1),.c (.fn 131 [.ext 0,.ext 1,.ext 2])] [.cells [.fn 129 []],.cells [.fn 131 [.ext 0,.ext 1,.ext 2]],.cells [.fn 90 []]] (.v (.c (.ow (.loc 0)))) [.cells [.fn 129 []],.cells [.fn 131 [.ext 0,.ext 1,.ext 2]],.cells [.fn 90 []]] [.tree .row true 8 r1 none]):=by
 induction n using Nat.strongRecOn with | _ n ih=>
 obtain _ | n:=n
 ·refine⟨?_,?_⟩
  ·intro z1 z2 s3 s4 s5 l6 l7 z8 r1 r2 r3 r4 r5 r6 r7 r8 h
   cases (show (none:Option _)=some _ from h)
  intro l1 r1 h
  cases (show (none:Option _)=some _ from h)
 refine⟨?_,?_⟩
 ·intro z1 z2 s3 s4 s5 l6 l7 z8 r1 r2 r3 r4 r5 r6 r7 r8 h
  rw[F131]at h
  refine Trip.of tab_ok tab_one fol Try.func131 rfl (by kernel_rfl) rfl rfl rfl (fun M hM hI=>?_)
  try cbv
  refine seq_go ?_
  try cbv
  refine seq_go ?_
  try cbv
  replace h:=bO2_inv h
  obtain⟨s9,l10,hr,h⟩:=h
  first | refine .inr (.inl ⟨[],?_⟩) | refine .inl ⟨[],?_⟩
  try cbv
  refine call_with hM hI [] (T129 _ hr) rfl (by simp) trivial trivial (by simp) ?_
  clear hr
  try cbv
  replace h:=bO1_inv h
  obtain⟨l11,hr,h⟩:=h
  first | refine .inr (.inr ⟨[.ext 0,.ext 1,.ext 2],?_⟩) | refine .inr ⟨[.ext 0,.ext 1,.ext 2],?_⟩
  try cbv
  refine call_with hM hI [.ext 0,.ext 1,.ext 2] ((ih _ (by omega)).2 hr) rfl (by simp) ⟨rfl,⟨rfl,⟨rfl,trivial⟩⟩⟩ ⟨trivial,⟨trivial,⟨trivial,trivial⟩⟩⟩ (by simp) ?_
  try cbv
  first | refine⟨(rfl:(_:Option AObj)=_),?_⟩ | skip
  first | refine⟨(rfl:(_:Option AObj)=_),?_⟩ | skip
  first | refine⟨(rfl:(_:Option AObj)=_),?_⟩ | skip
  try cbv
  clear hr
  try cbv
  replace h:=bO1_inv h
  obtain⟨z12,hr,h⟩:=h
  first | refine .inr (.inl ⟨[],?_⟩) | refine .inl ⟨[],?_⟩
  try cbv
  refine call_pure hM hI (T90 _ hr) rfl ?_
  clear hr
  try cbv
  refine drawn ?_ ?_
  ·show _=true
   kernel_rfl
  try cbv
  refine seq_go ?_
  try cbv
  obtain⟨rfl,rfl,rfl,rfl,rfl,rfl,rfl,rfl⟩:=inj8 h
  refine fin_go ?_
  try cbv
  exact⟨[.loc 160,.loc 288],rfl,rfl,⟨rfl,⟨rfl,⟨rfl,trivial⟩⟩⟩,⟨rfl,⟨rfl,trivial⟩⟩,trivial⟩
 intro l1 r1 h
 rw[F132]at h
 refine Trip.of tab_ok tab_one fol Try.func132 rfl (by kernel_rfl) rfl rfl rfl (fun M hM hI=>?_)
 try cbv
 refine seq_go ?_
 try cbv
 refine seq_go ?_
 try cbv
 refine seq_go ?_
 try cbv
 refine seq_go ?_
 try cbv
 replace h:=lenF_inv M h
 obtain⟨z2,hz,h⟩:=h
 refine⟨z2,hz,?_⟩
 clear hz
 try cbv
 refine loop_invG (T:=Nat×Int×List D) [.treeS 5 true 8] [] [1,4,5,8,9,10] [.ext 0,.ext 1,.ext 2,.loc 160] 192 (fun t=>⟨[(1,.v (.c (.fn 131 [.ext 0,.ext 1,.ext 2]))),(4,.v (.c (.nils true 8))),(5,.v (.c (.ow (.loc 160)))),(8,.v (.d (.list true 8 l1))),(9,.v (.d (.int .i64 z2))),(10,.v (.d (.int .i64 t.2.1)))],[(.ext 0,.cells [.fn 129 []]),(.ext 1,.cells [.fn 131 [.ext 0,.ext 1,.ext 2]]),(.ext 2,.cells [.fn 90 []]),(.loc 160,.tree .row true 8 t.2.2 none)],192⟩)
   (fun t=>t.1≤n∧L132_1 t.1 l1 z2 t.2.1 t.2.2=some r1) (fun t=>t.1) (n,((0:Int),([]:List D))) ⟨Nat.le_refl _,h⟩ (by cbv) ?_
 clear h
 rintro⟨m1,z3,l4⟩ ⟨hm1,h⟩
 replace hm1:m1≤n:=hm1
 obtain _ | m1:=m1
 ·replace h:L132_1 0 l1 z2 z3 l4=some r1:=h
  rw[L132_1]at h
  cases h
 replace h:L132_1 (m1+1) l1 z2 z3 l4=some r1:=h
 rw[L132_1]at h
 try cbv
 refine seq_join (T:=Nat×Bool) (fun t=>⟨[(1,.v (.c (.fn 131 [.ext 0,.ext 1,.ext 2]))),(4,.v (.c (.nils true 8))),(5,.v (.c (.ow (.loc 160)))),(8,.v (.d (.list true 8 l1))),(9,.v (.d (.int .i64 z2))),(10,.v (.d (.int .i64 z3))),(11,.v (.d (.bool t.2)))],[(.ext 0,.cells [.fn 129 []]),(.ext 1,.cells [.fn 131 [.ext 0,.ext 1,.ext 2]]),(.ext 2,.cells [.fn 90 []]),(.loc 160,.tree .row true 8 l4 none)],224⟩) (fun t=>t.1≤m1∧L132_2 t.1 l1 z2 z3 l4 t.2=some r1) ?_ ?_
 ·try cbv
  refine splitL (fun e=>?_) (fun e=>?_)
  ·replace h:=ite_t e h
   clear e
   try cbv
   exact join_next (m1,true) [1,4,5,8,9,10,11] [.ext 0,.ext 1,.ext 2,.loc 160] 224 ⟨by omega,h⟩ (by cbv)
  replace h:=ite_f (Int.not_lt.2 e) h
  clear e
  try cbv
  exact join_next (m1,false) [1,4,5,8,9,10,11] [.ext 0,.ext 1,.ext 2,.loc 160] 224 ⟨by omega,h⟩ (by cbv)
 clear h
 rintro⟨m2,b5⟩ ⟨hm2,h⟩
 replace hm2:m2≤m1:=hm2
 obtain _ | m2:=m2
 ·replace h:L132_2 0 l1 z2 z3 l4 b5=some r1:=h
  rw[L132_2]at h
  cases h
 replace h:L132_2 (m2+1) l1 z2 z3 l4 b5=some r1:=h
 rw[L132_2]at h
 try cbv
 refine seq_go ?_
 try cbv
 cases b5
 ·replace h:=ite_f Bool.false_ne_true h
  try cbv
  refine seq_go ?_
  try cbv
  obtain rfl:=Option.some.inj h
  refine fin_go ?_
  try cbv
  exact⟨[.loc 160],rfl,rfl,⟨rfl,⟨rfl,⟨rfl,trivial⟩⟩⟩,⟨rfl,trivial⟩,trivial⟩
 replace h:=ite_t rfl h
 try cbv
 refine seq_go ?_
 try cbv
 refine seq_go ?_
 try cbv
 replace h:=getF_inv h
 obtain⟨x6,⟨hx0,hx⟩,h⟩:=h
 refine⟨x6,hx0,hx,?_⟩
 clear hx0 hx
 replace h:=ds_t33_inv h
 obtain⟨z7,z8,s9,s10,s11,l12,l13,z14,rfl,h⟩:=h
 try cbv
 replace h:=bO8_inv h
 obtain⟨z15,z16,s17,s18,s19,z20,l21,l22,hr,h⟩:=h
 refine call_go rfl rfl ?_
 try cbv
 refine call_with hM hI [.ext 0,.ext 1,.ext 2] ((ih _ (by omega)).1 hr) rfl (by simp) ⟨rfl,⟨rfl,⟨rfl,trivial⟩⟩⟩ ⟨trivial,⟨trivial,⟨trivial,trivial⟩⟩⟩ (by simp) ?_
 clear hr
 try cbv
 refine⟨false,?_⟩
 try cbv
 refine⟨false,?_⟩
 try cbv
 refine op_pl ?_
 try cbv
 refine⟨true,?_⟩
 try cbv
 refine⟨true,?_⟩
 try cbv
 refine⟨[],?_⟩
 try cbv
 replace h:=appF_inv h
 obtain⟨l23,hb,hz,h⟩:=h
 refine⟨[.agg [.int .u8 z15,.int .i64 z16,.str s17,.str s18,.str s19,.list false 1 l21,.list true 8 l22,.int .i64 z20]],rfl,?_⟩
 try cbv
 refine⟨(M.lock_iff _).2 hb,l23,hz,?_⟩
 clear hb hz
 try cbv
 replace h:=letF_inv h
 obtain⟨z24,hz,h⟩:=h
 refine⟨z24,hz,?_⟩
 clear hz
 try cbv
 refine loop_nextG (m2,(z24,l23)) [] [(512,160)] [1,4,5,8,9,10] [.ext 0,.ext 1,.ext 2,.loc 512] 192 ⟨by omega,h⟩ (Nat.lt_succ_of_le (by omega)) ?_
 try cbv
theorem T131 (n:Nat):∀⦃z1:Int⦄ ⦃z2:Int⦄ ⦃s3:ByteArray⦄ ⦃s4:ByteArray⦄ ⦃s5:ByteArray⦄ ⦃l6:List D⦄ ⦃l7:List D⦄ ⦃z8:Int⦄ ⦃r1:Int⦄ ⦃r2:Int⦄ ⦃r3:ByteArray⦄ ⦃r4:ByteArray⦄ ⦃r5:ByteArray⦄ ⦃r6:Int⦄ ⦃r7:List D⦄ ⦃r8:List D⦄,F131 n z1 z2 s3 s4 s5 l6 l7 z8=some (r1,r2,r3,r4,r5,r6,r7,r8)→
  Trip Try.prog inv 131 [.d (.agg [.int .u8 z1,.int .i64 z2,.str s3,.str s4,.str s5,.list false 1 l6,.list true 8 l7,.int .i64 z8]),.c (.ptr (.ext 0) 0),.c (.ptr (.ext 1) 0),.c (.ptr (.ext 2) 0)] [.cells [.fn 129 []],.cells [.fn 131 [.ext 0,.ext 1,.ext 2]],.cells [.fn 90 []]] (.v (.agg [.d (.int .u8 r1),.d (.int .i64 r2),.d (.str r3),.d (.str r4),.d (.str r5),.ow (.loc 0),.ow (.loc 1),.d (.int .i64 r6)])) [.cells [.fn 129 []],.cells [.fn 131 [.ext 0,.ext 1,.ext 2]],.cells [.fn 90 []]] [.tree .row false 1 r7 none,.tree .row true 8 r8 none]:=(G131 n).1
theorem T132 (n:Nat):∀⦃l1:List D⦄ ⦃r1:List D⦄,F132 n l1=some r1→
  Trip Try.prog inv 132 [.d (.list true 8 l1),.c (.fn 131 [.ext 0,.ext 1,.ext 2])] [.cells [.fn 129 []],.cells [.fn 131 [.ext 0,.ext 1,.ext 2]],.cells [.fn 90 []]] (.v (.c (.ow (.loc 0)))) [.cells [.fn 129 []],.cells [.fn 131 [.ext 0,.ext 1,.ext 2]],.cells [.fn 90 []]] [.tree .row true 8 r1 none]:=(G131 n).2
mutual
def F133:Nat→ByteArray→ByteArray→(List D)→Option (ByteArray×ByteArray×List D)
 | 0,_,_,_=>none
 | n+1,s1,s2,l3=>
  bO1 (F134 n l3) fun l4=>some (s1,s2,l4)
def L136_1:Nat→(List D)→Int→Int→(List D)→Option (List D)
 | 0,_,_,_,_=>none
 | n+1,l1,z2,z3,l4=>
  (if z3<z2 then L136_2 n l1 z2 z3 l4 true else L136_2 n l1 z2 z3 l4 false)
def L136_2:Nat→(List D)→Int→Int→(List D)→Bool→Option (List D)
 | 0,_,_,_,_,_=>none
 | n+1,l1,z2,z3,l4,b5=>
  (if b5=true then getF l1 z3 fun x6=>ds_t154 x6 fun s7 s8 l9=>bO3 (F133 n s7 s8 l9) fun s10 s11 l12=>appF 56 l4 ([.agg [.str s10,.str s11,.list true 15 l12]]) fun l13=>letF (IntKind.wrap .i64 (z3+1)) fun z14=>L136_1 n l1 z2 z14 l13 else some l4)
def F136:Nat→(List D)→Option (List D)
 | 0,_=>none
 | n+1,l1=>
  lenF l1 fun z2=>L136_1 n l1 z2 (0:Int) ([]:List D)
def F135:Nat→Int→ByteArray→ByteArray→(List D)→Int→ByteArray→(List D)→Int→ByteArray→(List D)→(List D)→(List D)→(List D)→(List D)→Int→Option (Int×ByteArray×ByteArray×Int×ByteArray×Int×ByteArray×Int×List D×List D×List D×List D×List D×List D×List D)
 | 0,_,_,_,_,_,_,_,_,_,_,_,_,_,_,_=>none
 | n+1,z1,s2,s3,l4,z5,s6,l7,z8,s9,l10,l11,l12,l13,l14,z15=>
  bO1 (F130 n l4) fun l16=>bO3 (F127 n z5 s6 l7) fun z17 s18 l19=>bO2 (F129 n s9 l10) fun s20 l21=>bO1 (F132 n l11) fun l22=>bO1 (F134 n l12) fun l23=>bO1 (F134 n l13) fun l24=>bO1 (F136 n l14) fun l25=>bO1 (F90 n z15) fun z26=>some (z1,s2,s3,z17,s18,z8,s20,z26,l16,l19,l21,l22,l23,l24,l25)
def L134_1:Nat→(List D)→Int→Int→(List D)→Option (List D)
 | 0,_,_,_,_=>none
 | n+1,l1,z2,z3,l4=>
  (if z3<z2 then L134_2 n l1 z2 z3 l4 true else L134_2 n l1 z2 z3 l4 false)
def L134_2:Nat→(List D)→Int→Int→(List D)→Bool→Option (List D)
 | 0,_,_,_,_,_=>none
 | n+1,l1,z2,z3,l4,b5=>
  (if b5=true then getF l1 z3 fun x6=>ds_t152 x6 fun z7 s8 s9 l10 z11 s12 l13 z14 s15 l16 l17 l18 l19 l20 z21=>bO15 (F135 n z7 s8 s9 l10 z11 s12 l13 z14 s15 l16 l17 l18 l19 l20 z21) fun z22 s23 s24 z25 s26 z27 s28 z29 l30 l31 l32 l33 l34 l35 l36=>appF 264 l4 ([.agg [.int .u8 z22,.str s23,.str s24,.list false 1 l30,.int .u8 z25,.str s26,.list true 3 l31,.int .i64 z27,.str s28,.list false 1 l32,.list true 8 l33,.list true 15 l34,.list true 15 l35,.list true 3 l36,.int .i64 z29]]) fun l37=>letF (IntKind.wrap .i64 (z3+1)) fun z38=>L134_1 n l1 z2 z38 l37 else some l4)
def F134:Nat→(List D)→Option (List D)
 | 0,_=>none
 | n+1,l1=>
  lenF l1 fun z2=>L134_1 n l1 z2 (0:Int) ([]:List D)
end
theorem G133 (n:Nat):(∀⦃s1:ByteArray⦄ ⦃s2:ByteArray⦄ ⦃l3:List D⦄ ⦃r1:ByteArray⦄ ⦃r2:ByteArray⦄ ⦃r3:List D⦄,F133 n s1 s2 l3=some (r1,r2,r3)→
    Trip Try.prog inv 133 [.d (.agg [.str s1,.str s2,.list true 15 l3]),.c (.ptr (.ext 0) 0)] [.cells [.fn 135 [.ext 1,.ext 2,.ext 3,.ext 0,.ext 5,.ext 4]],.cells [.fn 127 [.ext 1]],.cells [.fn 129 []],.cells [.fn 131 [.ext 2,.ext 3,.ext 4]],.cells [.fn 90 []],.cells [.fn 133 [.ext 0]]] (.v (.agg [.d (.str r1),.d (.str r2),.ow (.loc 0)])) [.cells [.fn 135 [.ext 1,.ext 2,.ext 3,.ext 0,.ext 5,.ext 4]],.cells [.fn 127 [.ext 1]],.cells [.fn 129 []],.cells [.fn 131 [.ext 2,.ext 3,.ext 4]],.cells [.fn 90 []],.cells [.fn 133 [.ext 0]]] [.tree .row true 15 r3 none])∧
    (∀⦃l1:List D⦄ ⦃r1:List D⦄,F136 n l1=some r1→
    Trip Try.prog inv 136 [.d (.list true 3 l1),.c (.fn 133 [.ext 0])] [.cells [.fn 135 [.ext 1,.ext 2,.ext 3,.ext 0,.ext 5,.ext 4]],.cells [.fn 127 [.ext 1]],.cells [.fn 129 []],.cells [.fn 131 [.ext 2,.ext 3,.ext 4]],.cells [.fn 90 []],.cells [.fn 133 [.ext 0]]] (.v (.c (.ow (.loc 0)))) [.cells [.fn 135 [.ext 1,.ext 2,.ext 3,.ext 0,.ext 5,.ext 4]],.cells [.fn 127 [.ext 1]],.cells [.fn 129 []],.cells [.fn 131 [.ext 2,.ext 3,.ext 4]],.cells [.fn 90 []],.cells [.fn 133 [.ext 0]]] [.tree .row true 3 r1 none])∧
    (∀⦃z1:Int⦄ ⦃s2:ByteArray⦄ ⦃s3:ByteArray⦄ ⦃l4:List D⦄ ⦃z5:Int⦄ ⦃s6:ByteArray⦄ ⦃l7:List D⦄ ⦃z8:Int⦄ ⦃s9:ByteArray⦄ ⦃l10:List D⦄ ⦃l11:List D⦄ ⦃l12:List D⦄ ⦃l13:List D⦄ ⦃l14:List D⦄ ⦃z15:Int⦄ ⦃r1:Int⦄ ⦃r2:ByteArray⦄ ⦃r3:ByteArray⦄ ⦃r4:Int⦄ ⦃r5:ByteArray⦄ ⦃r6:Int⦄ ⦃r7:ByteArray⦄ ⦃r8:Int⦄ ⦃r9:List D⦄ ⦃r10:List D⦄ ⦃r11:List D⦄ ⦃r12:List D⦄ ⦃r13:List D⦄ ⦃r14:List D⦄ ⦃r15:List D⦄,F135 n z1 s2 s3 l4 z5 s6 l7 z8 s9 l10 l11 l12 l13 l14 z15=some (r1,r2,r3,r4,r5,r6,r7,r8,r9,r10,r11,r12,r13,r14,r15)→
    Trip Try.prog inv 135 [.d (.agg [.int .u8 z1,.str s2,.str s3,.list false 1 l4,.int .u8 z5,.str s6,.list true 3 l7,.int .i64 z8,.str s9,.list false 1 l10,.list true 8 l11,.list true 15 l12,.list true 15 l13,.list true 3 l14,.int .i64 z15]),.c (.ptr (.ext 0) 0),.c (.ptr (.ext 1) 0),.c (.ptr (.ext 2) 0),.c (.ptr (.ext 4) 0),.c (.ptr (.ext 5) 0),.c (.ptr (.ext 3) 0)] [.cells [.fn 127 [.ext 0]],.cells [.fn 129 []],.cells [.fn 131 [.ext 1,.ext 2,.ext 3]],.cells [.fn 90 []],.cells [.fn 135 [.ext 0,.ext 1,.ext 2,.ext 4,.ext 5,.ext 3]],.cells [.fn 133 [.ext 4]]] (.v (.agg [.d (.int .u8 r1),.d (.str r2),.d (.str r3),.ow (.loc 0),.d (.int .u8 r4),.d (.str r5),.ow (.loc 1),.d (.int .i64 r6),.d (.str r7),.ow (.loc 2),.ow (.loc 3),.ow (.loc 4),.ow (.loc 5),.ow (.loc 6),.d (.int .i64 r8)])) [.cells [.fn 127 [.ext 0]],.cells [.fn 129 []],.cells [.fn 131 [.ext 1,.ext 2,.ext 3]],.cells [.fn 90 []],.cells [.fn 135 [.ext 0,.ext 1,.ext 2,.ext 4,.ext 5,.ext 3]],.cells [.fn 133 [.ext 4]]] [.tree .row false 1 r9 none,.tree .row true 3 r10 none,.tree .row false 1 r11 none,.tree .row true 8 r12 none,.tree .row true 15 r13 none,.tree .row true 15 r14 none,.tree .row true 3 r15 none])∧
    (∀⦃l1:List D⦄ ⦃r1:List D⦄,F134 n l1=some r1→
    Trip Try.prog inv 134 [.d (.list true 15 l1),.c (.fn 135 [.ext 0,.ext 1,.ext 2,.ext 4,.ext 5,.ext 3])] [.cells [.fn 127 [.ext 0]],.cells [.fn 129 []],.cells [.fn 131 [.ext 1,.ext 2,.ext 3]],.cells [.fn 90 []],.cells [.fn 135 [.ext 0,.ext 1,.ext 2,.ext 4,.ext 5,.ext 3]],.cells [.fn 133 [.ext 4]]] (.v (.c (.ow (.loc 0)))) [.cells [.fn 127 [.ext 0]],.cells [.fn 129 []],.cells [.fn 131 [.ext 1,.ext 2,.ext 3]],.cells [.fn 90 []],.cells [.fn 135 [.ext 0,.ext 1,.ext 2,.ext 4,.ext 5,.ext 3]],.cells [.fn 133 [.ext 4]]] [.tree .row true 15 r1 none]):=by
 induction n using Nat.strongRecOn with | _ n ih=>
 obtain _ | n:=n
 ·refine⟨?_,?_,?_,?_⟩
  ·intro s1 s2 l3 r1 r2 r3 h
   cases (show (none:Option _)=some _ from h)
  ·intro l1 r1 h
   cases (show (none:Option _)=some _ from h)
  ·intro z1 s2 s3 l4 z5 s6 l7 z8 s9 l10 l11 l12 l13 l14 z15 r1 r2 r3 r4 r5 r6 r7 r8 r9 r10 r11 r12 r13 r14 r15 h
   cases (show (none:Option _)=some _ from h)
  intro l1 r1 h
  cases (show (none:Option _)=some _ from h)
 refine⟨?_,?_,?_,?_⟩
 ·intro s1 s2 l3 r1 r2 r3 h
  rw[F133]at h
  refine Trip.of tab_ok tab_one fol Try.func133 rfl (by kernel_rfl) rfl rfl rfl (fun M hM hI=>?_)
  try cbv
  refine seq_go ?_
  try cbv
  refine seq_go ?_
  try cbv
  replace h:=bO1_inv h
  obtain⟨l4,hr,h⟩:=h
  refine call_go rfl rfl ?_
  try cbv
  refine call_with hM hI [.ext 1,.ext 2,.ext 3,.ext 4,.ext 0,.ext 5] ((ih _ (by omega)).2.2.2 hr) rfl (by simp) ⟨rfl,⟨rfl,⟨rfl,⟨rfl,⟨rfl,⟨rfl,trivial⟩⟩⟩⟩⟩⟩ ⟨trivial,⟨trivial,⟨trivial,⟨trivial,⟨trivial,⟨trivial,trivial⟩⟩⟩⟩⟩⟩ (by simp) ?_
  clear hr
  try cbv
  refine seq_go ?_
  try cbv
  obtain⟨rfl,rfl,rfl⟩:=inj3 h
  refine fin_go ?_
  try cbv
  exact⟨[.loc 160],rfl,rfl,⟨rfl,⟨rfl,⟨rfl,⟨rfl,⟨rfl,⟨rfl,trivial⟩⟩⟩⟩⟩⟩,⟨rfl,trivial⟩,trivial⟩
 ·intro l1 r1 h
  rw[F136]at h
  refine Trip.of tab_ok tab_one fol Try.func136 rfl (by kernel_rfl) rfl rfl rfl (fun M hM hI=>?_)
  try cbv
  refine seq_go ?_
  try cbv
  refine seq_go ?_
  try cbv
  refine seq_go ?_
  try cbv
  refine seq_go ?_
  try cbv
  replace h:=lenF_inv M h
  obtain⟨z2,hz,h⟩:=h
  refine⟨z2,hz,?_⟩
  clear hz
  try cbv
  refine loop_invG (T:=Nat×Int×List D) [.treeS 5 true 3] [] [1,4,5,8,9,10] [.ext 0,.ext 1,.ext 2,.ext 3,.ext 4,.ext 5,.loc 160] 192 (fun t=>⟨[(1,.v (.c (.fn 133 [.ext 0]))),(4,.v (.c (.nils true 3))),(5,.v (.c (.ow (.loc 160)))),(8,.v (.d (.list true 3 l1))),(9,.v (.d (.int .i64 z2))),(10,.v (.d (.int .i64 t.2.1)))],[(.ext 0,.cells [.fn 135 [.ext 1,.ext 2,.ext 3,.ext 0,.ext 5,.ext 4]]),(.ext 1,.cells [.fn 127 [.ext 1]]),(.ext 2,.cells [.fn 129 []]),(.ext 3,.cells [.fn 131 [.ext 2,.ext 3,.ext 4]]),(.ext 4,.cells [.fn 90 []]),(.ext 5,.cells [.fn 133 [.ext 0]]),(.loc 160,.tree .row true 3 t.2.2 none)],192⟩)
    (fun t=>t.1≤n∧L136_1 t.1 l1 z2 t.2.1 t.2.2=some r1) (fun t=>t.1) (n,((0:Int),([]:List D))) ⟨Nat.le_refl _,h⟩ (by cbv) ?_
  clear h
  rintro⟨m1,z3,l4⟩ ⟨hm1,h⟩
  replace hm1:m1≤n:=hm1
  obtain _ | m1:=m1
  ·replace h:L136_1 0 l1 z2 z3 l4=some r1:=h
   rw[L136_1]at h
   cases h
  replace h:L136_1 (m1+1) l1 z2 z3 l4=some r1:=h
  rw[L136_1]at h
  try cbv
  refine seq_join (T:=Nat×Bool) (fun t=>⟨[(1,.v (.c (.fn 133 [.ext 0]))),(4,.v (.c (.nils true 3))),(5,.v (.c (.ow (.loc 160)))),(8,.v (.d (.list true 3 l1))),(9,.v (.d (.int .i64 z2))),(10,.v (.d (.int .i64 z3))),(11,.v (.d (.bool t.2)))],[(.ext 0,.cells [.fn 135 [.ext 1,.ext 2,.ext 3,.ext 0,.ext 5,.ext 4]]),(.ext 1,.cells [.fn 127 [.ext 1]]),(.ext 2,.cells [.fn 129 []]),(.ext 3,.cells [.fn 131 [.ext 2,.ext 3,.ext 4]]),(.ext 4,.cells [.fn 90 []]),(.ext 5,.cells [.fn 133 [.ext 0]]),(.loc 160,.tree .row true 3 l4 none)],224⟩) (fun t=>t.1≤m1∧L136_2 t.1 l1 z2 z3 l4 t.2=some r1) ?_ ?_
  ·try cbv
   refine splitL (fun e=>?_) (fun e=>?_)
   ·replace h:=ite_t e h
    clear e
    try cbv
    exact join_next (m1,true) [1,4,5,8,9,10,11] [.ext 0,.ext 1,.ext 2,.ext 3,.ext 4,.ext 5,.loc 160] 224 ⟨by omega,h⟩ (by cbv)
   replace h:=ite_f (Int.not_lt.2 e) h
   clear e
   try cbv
   exact join_next (m1,false) [1,4,5,8,9,10,11] [.ext 0,.ext 1,.ext 2,.ext 3,.ext 4,.ext 5,.loc 160] 224 ⟨by omega,h⟩ (by cbv)
  clear h
  rintro⟨m2,b5⟩ ⟨hm2,h⟩
  replace hm2:m2≤m1:=hm2
  obtain _ | m2:=m2
  ·replace h:L136_2 0 l1 z2 z3 l4 b5=some r1:=h
   rw[L136_2]at h
   cases h
  replace h:L136_2 (m2+1) l1 z2 z3 l4 b5=some r1:=h
  rw[L136_2]at h
  try cbv
  refine seq_go ?_
  try cbv
  cases b5
  ·replace h:=ite_f Bool.false_ne_true h
   try cbv
   refine seq_go ?_
   try cbv
   obtain rfl:=Option.some.inj h
   refine fin_go ?_
   try cbv
   exact⟨[.loc 160],rfl,rfl,⟨rfl,⟨rfl,⟨rfl,⟨rfl,⟨rfl,⟨rfl,trivial⟩⟩⟩⟩⟩⟩,⟨rfl,trivial⟩,trivial⟩
  replace h:=ite_t rfl h
  try cbv
  refine seq_go ?_
  try cbv
  refine seq_go ?_
  try cbv
  replace h:=getF_inv h
  obtain⟨x6,⟨hx0,hx⟩,h⟩:=h
  refine⟨x6,hx0,hx,?_⟩
  clear hx0 hx
  replace h:=ds_t154_inv h
  obtain⟨s7,s8,l9,rfl,h⟩:=h
  try cbv
  replace h:=bO3_inv h
  obtain⟨s10,s11,l12,hr,h⟩:=h
  refine call_go rfl rfl ?_
  try cbv
  refine call_with hM hI [.ext 0,.ext 1,.ext 2,.ext 3,.ext 4,.ext 5] ((ih _ (by omega)).1 hr) rfl (by simp) ⟨rfl,⟨rfl,⟨rfl,⟨rfl,⟨rfl,⟨rfl,trivial⟩⟩⟩⟩⟩⟩ ⟨trivial,⟨trivial,⟨trivial,⟨trivial,⟨trivial,⟨trivial,trivial⟩⟩⟩⟩⟩⟩ (by simp) ?_
  clear hr
  try cbv
  refine⟨false,?_⟩
  try cbv
  refine⟨false,?_⟩
  try cbv
  refine op_pl ?_
  try cbv
  refine⟨true,?_⟩
  try cbv
  refine⟨true,?_⟩
  try cbv
  refine⟨[],?_⟩
  try cbv
  replace h:=appF_inv h
  obtain⟨l13,hb,hz,h⟩:=h
  refine⟨[.agg [.str s10,.str s11,.list true 15 l12]],rfl,?_⟩
  try cbv
  refine⟨(M.lock_iff _).2 hb,l13,hz,?_⟩
  clear hb hz
  try cbv
  replace h:=letF_inv h
  obtain⟨z14,hz,h⟩:=h
  refine⟨z14,hz,?_⟩
  clear hz
  try cbv
  refine loop_nextG (m2,(z14,l13)) [] [(512,160)] [1,4,5,8,9,10] [.ext 0,.ext 1,.ext 2,.ext 3,.ext 4,.ext 5,.loc 512] 192 ⟨by omega,h⟩ (Nat.lt_succ_of_le (by omega)) ?_
  try cbv
 ·intro z1 s2 s3 l4 z5 s6 l7 z8 s9 l10 l11 l12 l13 l14 z15 r1 r2 r3 r4 r5 r6 r7 r8 r9 r10 r11 r12 r13 r14 r15 h
  rw[F135]at h
  refine Trip.of tab_ok tab_one fol Try.func135 rfl (by kernel_rfl) rfl rfl rfl (fun M hM hI=>?_)
  try cbv
  refine seq_go ?_
  try cbv
  refine seq_go ?_
  try cbv
  replace h:=bO1_inv h
  obtain⟨l16,hr,h⟩:=h
  first | refine .inr (.inl ⟨[],?_⟩) | refine .inl ⟨[],?_⟩
  try cbv
  refine call_with hM hI [] (T130 _ hr) rfl (by simp) trivial trivial (by simp) ?_
  clear hr
  try cbv
  replace h:=bO3_inv h
  obtain⟨z17,s18,l19,hr,h⟩:=h
  first | refine .inr (.inr ⟨[.ext 0],?_⟩) | refine .inr ⟨[.ext 0],?_⟩
  try cbv
  refine call_with hM hI [.ext 0] (T127 _ hr) rfl (by simp) ⟨rfl,trivial⟩ ⟨trivial,trivial⟩ (by simp) ?_
  try cbv
  first | refine⟨(rfl:(_:Option AObj)=_),?_⟩ | skip
  try cbv
  clear hr
  try cbv
  replace h:=bO2_inv h
  obtain⟨s20,l21,hr,h⟩:=h
  first | refine .inr (.inl ⟨[],?_⟩) | refine .inl ⟨[],?_⟩
  try cbv
  refine call_with hM hI [] (T129 _ hr) rfl (by simp) trivial trivial (by simp) ?_
  clear hr
  try cbv
  replace h:=bO1_inv h
  obtain⟨l22,hr,h⟩:=h
  first | refine .inr (.inr ⟨[.ext 1,.ext 2,.ext 3],?_⟩) | refine .inr ⟨[.ext 1,.ext 2,.ext 3],?_⟩
  try cbv
  refine call_with hM hI [.ext 1,.ext 2,.ext 3] (T132 _ hr) rfl (by simp) ⟨rfl,⟨rfl,⟨rfl,trivial⟩⟩⟩ ⟨trivial,⟨trivial,⟨trivial,trivial⟩⟩⟩ (by simp) ?_
  try cbv
  first | refine⟨(rfl:(_:Option AObj)=_),?_⟩ | skip
  first | refine⟨(rfl:(_:Option AObj)=_),?_⟩ | skip
  first | refine⟨(rfl:(_:Option AObj)=_),?_⟩ | skip
  try cbv
  clear hr
  try cbv
  refine drawn ?_ ?_
  ·show _=true
   kernel_rfl
  try cbv
  refine seq_go ?_
  try cbv
  replace h:=bO1_inv h
  obtain⟨l23,hr,h⟩:=h
  first | refine .inr (.inr ⟨[.ext 0,.ext 1,.ext 2,.ext 3,.ext 4,.ext 5],?_⟩) | refine .inr ⟨[.ext 0,.ext 1,.ext 2,.ext 3,.ext 4,.ext 5],?_⟩
  try cbv
  refine call_with hM hI [.ext 0,.ext 1,.ext 2,.ext 3,.ext 4,.ext 5] ((ih _ (by omega)).2.2.2 hr) rfl (by simp) ⟨rfl,⟨rfl,⟨rfl,⟨rfl,⟨rfl,⟨rfl,trivial⟩⟩⟩⟩⟩⟩ ⟨trivial,⟨trivial,⟨trivial,⟨trivial,⟨trivial,⟨trivial,trivial⟩⟩⟩⟩⟩⟩ (by simp) ?_
  try cbv
  first | refine⟨(rfl:(_:Option AObj)=_),?_⟩ | skip
  first | refine⟨(rfl:(_:Option AObj)=_),?_⟩ | skip
  first | refine⟨(rfl:(_:Option AObj)=_),?_⟩ | skip
  first | refine⟨(rfl:(_:Option AObj)=_),?_⟩ | skip
  first | refine⟨(rfl:(_:Option AObj)=_),?_⟩ | skip
  first | refine⟨(rfl:(_:Option AObj)=_),?_⟩ | skip
  try cbv
  clear hr
  try cbv
  replace h:=bO1_inv h
  obtain⟨l24,hr,h⟩:=h
  first | refine .inr (.inr ⟨[.ext 0,.ext 1,.ext 2,.ext 3,.ext 4,.ext 5],?_⟩) | refine .inr ⟨[.ext 0,.ext 1,.ext 2,.ext 3,.ext 4,.ext 5],?_⟩
  try cbv
  refine call_with hM hI [.ext 0,.ext 1,.ext 2,.ext 3,.ext 4,.ext 5] ((ih _ (by omega)).2.2.2 hr) rfl (by simp) ⟨rfl,⟨rfl,⟨rfl,⟨rfl,⟨rfl,⟨rfl,trivial⟩⟩⟩⟩⟩⟩ ⟨trivial,⟨trivial,⟨trivial,⟨trivial,⟨trivial,⟨trivial,trivial⟩⟩⟩⟩⟩⟩ (by simp) ?_
  try cbv
  first | refine⟨(rfl:(_:Option AObj)=_),?_⟩ | skip
  first | refine⟨(rfl:(_:Option AObj)=_),?_⟩ | skip
  first | refine⟨(rfl:(_:Option AObj)=_),?_⟩ | skip
  first | refine⟨(rfl:(_:Option AObj)=_),?_⟩ | skip
  first | refine⟨(rfl:(_:Option AObj)=_),?_⟩ | skip
  first | refine⟨(rfl:(_:Option AObj)=_),?_⟩ | skip
  try cbv
  clear hr
  try cbv
  replace h:=bO1_inv h
  obtain⟨l25,hr,h⟩:=h
  first | refine .inr (.inr ⟨[.ext 4,.ext 0,.ext 1,.ext 2,.ext 3,.ext 5],?_⟩) | refine .inr ⟨[.ext 4,.ext 0,.ext 1,.ext 2,.ext 3,.ext 5],?_⟩
  try cbv
  refine call_with hM hI [.ext 4,.ext 0,.ext 1,.ext 2,.ext 3,.ext 5] ((ih _ (by omega)).2.1 hr) rfl (by simp) ⟨rfl,⟨rfl,⟨rfl,⟨rfl,⟨rfl,⟨rfl,trivial⟩⟩⟩⟩⟩⟩ ⟨trivial,⟨trivial,⟨trivial,⟨trivial,⟨trivial,⟨trivial,trivial⟩⟩⟩⟩⟩⟩ (by simp) ?_
  try cbv
  first | refine⟨(rfl:(_:Option AObj)=_),?_⟩ | skip
  first | refine⟨(rfl:(_:Option AObj)=_),?_⟩ | skip
  first | refine⟨(rfl:(_:Option AObj)=_),?_⟩ | skip
  first | refine⟨(rfl:(_:Option AObj)=_),?_⟩ | skip
  first | refine⟨(rfl:(_:Option AObj)=_),?_⟩ | skip
  first | refine⟨(rfl:(_:Option AObj)=_),?_⟩ | skip
  try cbv
  clear hr
  try cbv
  replace h:=bO1_inv h
  obtain⟨z26,hr,h⟩:=h
  first | refine .inr (.inl ⟨[],?_⟩) | refine .inl ⟨[],?_⟩
  try cbv
  refine call_pure hM hI (T90 _ hr) rfl ?_
  clear hr
  try cbv
  refine drawn ?_ ?_
  ·show _=true
   kernel_rfl
  try cbv
  refine seq_go ?_
  try cbv
  obtain⟨rfl,rfl,rfl,rfl,rfl,rfl,rfl,rfl,rfl,rfl,rfl,rfl,rfl,rfl,rfl⟩:=inj15 h
  refine fin_go ?_
  try cbv
  exact⟨[.loc 128,.loc 256,.loc 384,.loc 512,.loc 896,.loc 1024,.loc 1152],rfl,rfl,⟨rfl,⟨rfl,⟨rfl,⟨rfl,⟨rfl,⟨rfl,trivial⟩⟩⟩⟩⟩⟩,⟨rfl,⟨rfl,⟨rfl,⟨rfl,⟨rfl,⟨rfl,⟨rfl,trivial⟩⟩⟩⟩⟩⟩⟩,trivial⟩
 intro l1 r1 h
 rw[F134]at h
 refine Trip.of tab_ok tab_one fol Try.func134 rfl (by kernel_rfl) rfl rfl rfl (fun M hM hI=>?_)
 try cbv
 refine seq_go ?_
 try cbv
 refine seq_go ?_
 try cbv
 refine seq_go ?_
 try cbv
 refine seq_go ?_
 try cbv
 replace h:=lenF_inv M h
 obtain⟨z2,hz,h⟩:=h
 refine⟨z2,hz,?_⟩
 clear hz
 try cbv
 refine loop_invG (T:=Nat×Int×List D) [.treeS 5 true 15] [] [1,4,5,8,9,10] [.ext 0,.ext 1,.ext 2,.ext 3,.ext 4,.ext 5,.loc 160] 192 (fun t=>⟨[(1,.v (.c (.fn 135 [.ext 0,.ext 1,.ext 2,.ext 4,.ext 5,.ext 3]))),(4,.v (.c (.nils true 15))),(5,.v (.c (.ow (.loc 160)))),(8,.v (.d (.list true 15 l1))),(9,.v (.d (.int .i64 z2))),(10,.v (.d (.int .i64 t.2.1)))],[(.ext 0,.cells [.fn 127 [.ext 0]]),(.ext 1,.cells [.fn 129 []]),(.ext 2,.cells [.fn 131 [.ext 1,.ext 2,.ext 3]]),(.ext 3,.cells [.fn 90 []]),(.ext 4,.cells [.fn 135 [.ext 0,.ext 1,.ext 2,.ext 4,.ext 5,.ext 3]]),(.ext 5,.cells [.fn 133 [.ext 4]]),(.loc 160,.tree .row true 15 t.2.2 none)],192⟩)
   (fun t=>t.1≤n∧L134_1 t.1 l1 z2 t.2.1 t.2.2=some r1) (fun t=>t.1) (n,((0:Int),([]:List D))) ⟨Nat.le_refl _,h⟩ (by cbv) ?_
 clear h
 rintro⟨m1,z3,l4⟩ ⟨hm1,h⟩
 replace hm1:m1≤n:=hm1
 obtain _ | m1:=m1
 ·replace h:L134_1 0 l1 z2 z3 l4=some r1:=h
  rw[L134_1]at h
  cases h
 replace h:L134_1 (m1+1) l1 z2 z3 l4=some r1:=h
 rw[L134_1]at h
 try cbv
 refine seq_join (T:=Nat×Bool) (fun t=>⟨[(1,.v (.c (.fn 135 [.ext 0,.ext 1,.ext 2,.ext 4,.ext 5,.ext 3]))),(4,.v (.c (.nils true 15))),(5,.v (.c (.ow (.loc 160)))),(8,.v (.d (.list true 15 l1))),(9,.v (.d (.int .i64 z2))),(10,.v (.d (.int .i64 z3))),(11,.v (.d (.bool t.2)))],[(.ext 0,.cells [.fn 127 [.ext 0]]),(.ext 1,.cells [.fn 129 []]),(.ext 2,.cells [.fn 131 [.ext 1,.ext 2,.ext 3]]),(.ext 3,.cells [.fn 90 []]),(.ext 4,.cells [.fn 135 [.ext 0,.ext 1,.ext 2,.ext 4,.ext 5,.ext 3]]),(.ext 5,.cells [.fn 133 [.ext 4]]),(.loc 160,.tree .row true 15 l4 none)],224⟩) (fun t=>t.1≤m1∧L134_2 t.1 l1 z2 z3 l4 t.2=some r1) ?_ ?_
 ·try cbv
  refine splitL (fun e=>?_) (fun e=>?_)
  ·replace h:=ite_t e h
   clear e
   try cbv
   exact join_next (m1,true) [1,4,5,8,9,10,11] [.ext 0,.ext 1,.ext 2,.ext 3,.ext 4,.ext 5,.loc 160] 224 ⟨by omega,h⟩ (by cbv)
  replace h:=ite_f (Int.not_lt.2 e) h
  clear e
  try cbv
  exact join_next (m1,false) [1,4,5,8,9,10,11] [.ext 0,.ext 1,.ext 2,.ext 3,.ext 4,.ext 5,.loc 160] 224 ⟨by omega,h⟩ (by cbv)
 clear h
 rintro⟨m2,b5⟩ ⟨hm2,h⟩
 replace hm2:m2≤m1:=hm2
 obtain _ | m2:=m2
 ·replace h:L134_2 0 l1 z2 z3 l4 b5=some r1:=h
  rw[L134_2]at h
  cases h
 replace h:L134_2 (m2+1) l1 z2 z3 l4 b5=some r1:=h
 rw[L134_2]at h
 try cbv
 refine seq_go ?_
 try cbv
 cases b5
 ·replace h:=ite_f Bool.false_ne_true h
  try cbv
  refine seq_go ?_
  try cbv
  obtain rfl:=Option.some.inj h
  refine fin_go ?_
  try cbv
  exact⟨[.loc 160],rfl,rfl,⟨rfl,⟨rfl,⟨rfl,⟨rfl,⟨rfl,⟨rfl,trivial⟩⟩⟩⟩⟩⟩,⟨rfl,trivial⟩,trivial⟩
 replace h:=ite_t rfl h
 try cbv
 refine seq_go ?_
 try cbv
 refine seq_go ?_
 try cbv
 replace h:=getF_inv h
 obtain⟨x6,⟨hx0,hx⟩,h⟩:=h
 refine⟨x6,hx0,hx,?_⟩
 clear hx0 hx
 replace h:=ds_t152_inv h
 obtain⟨z7,s8,s9,l10,z11,s12,l13,z14,s15,l16,l17,l18,l19,l20,z21,rfl,h⟩:=h
 try cbv
 replace h:=bO15_inv h
 obtain⟨z22,s23,s24,z25,s26,z27,s28,z29,l30,l31,l32,l33,l34,l35,l36,hr,h⟩:=h
 refine call_go rfl rfl ?_
 try cbv
 refine call_with hM hI [.ext 0,.ext 1,.ext 2,.ext 3,.ext 4,.ext 5] ((ih _ (by omega)).2.2.1 hr) rfl (by simp) ⟨rfl,⟨rfl,⟨rfl,⟨rfl,⟨rfl,⟨rfl,trivial⟩⟩⟩⟩⟩⟩ ⟨trivial,⟨trivial,⟨trivial,⟨trivial,⟨trivial,⟨trivial,trivial⟩⟩⟩⟩⟩⟩ (by simp) ?_
 clear hr
 try cbv
 refine⟨false,?_⟩
 try cbv
 refine⟨false,?_⟩
 try cbv
 refine op_pl ?_
 try cbv
 refine⟨true,?_⟩
 try cbv
 refine⟨true,?_⟩
 try cbv
 refine⟨[],?_⟩
 try cbv
 replace h:=appF_inv h
 obtain⟨l37,hb,hz,h⟩:=h
 refine⟨[.agg [.int .u8 z22,.str s23,.str s24,.list false 1 l30,.int .u8 z25,.str s26,.list true 3 l31,.int .i64 z27,.str s28,.list false 1 l32,.list true 8 l33,.list true 15 l34,.list true 15 l35,.list true 3 l36,.int .i64 z29]],rfl,?_⟩
 try cbv
 refine⟨(M.lock_iff _).2 hb,l37,hz,?_⟩
 clear hb hz
 try cbv
 replace h:=letF_inv h
 obtain⟨z38,hz,h⟩:=h
 refine⟨z38,hz,?_⟩
 clear hz
 try cbv
 refine loop_nextG (m2,(z38,l37)) [] [(512,160)] [1,4,5,8,9,10] [.ext 0,.ext 1,.ext 2,.ext 3,.ext 4,.ext 5,.loc 512] 192 ⟨by omega,h⟩ (Nat.lt_succ_of_le (by omega)) ?_
 try cbv
theorem T134 (n:Nat):∀⦃l1:List D⦄ ⦃r1:List D⦄,F134 n l1=some r1→
  Trip Try.prog inv 134 [.d (.list true 15 l1),.c (.fn 135 [.ext 0,.ext 1,.ext 2,.ext 4,.ext 5,.ext 3])] [.cells [.fn 127 [.ext 0]],.cells [.fn 129 []],.cells [.fn 131 [.ext 1,.ext 2,.ext 3]],.cells [.fn 90 []],.cells [.fn 135 [.ext 0,.ext 1,.ext 2,.ext 4,.ext 5,.ext 3]],.cells [.fn 133 [.ext 4]]] (.v (.c (.ow (.loc 0)))) [.cells [.fn 127 [.ext 0]],.cells [.fn 129 []],.cells [.fn 131 [.ext 1,.ext 2,.ext 3]],.cells [.fn 90 []],.cells [.fn 135 [.ext 0,.ext 1,.ext 2,.ext 4,.ext 5,.ext 3]],.cells [.fn 133 [.ext 4]]] [.tree .row true 15 r1 none]:=(G133 n).2.2.2
def F137 (n:Nat) (s1:ByteArray) (z2:Int) (s3:ByteArray) (l4:List D):Option (ByteArray×Int×ByteArray×List D):=
 bO3 (F127 n z2 s3 l4) fun z5 s6 l7=>some (s1,z5,s6,l7)
theorem T137 (n:Nat):∀⦃s1:ByteArray⦄ ⦃z2:Int⦄ ⦃s3:ByteArray⦄ ⦃l4:List D⦄ ⦃r1:ByteArray⦄ ⦃r2:Int⦄ ⦃r3:ByteArray⦄ ⦃r4:List D⦄,F137 n s1 z2 s3 l4=some (r1,r2,r3,r4)→
    Trip Try.prog inv 137 [.d (.agg [.str s1,.int .u8 z2,.str s3,.list true 3 l4]),.c (.ptr (.ext 0) 0)] [.cells [.fn 127 [.ext 0]]] (.v (.agg [.d (.str r1),.d (.int .u8 r2),.d (.str r3),.ow (.loc 0)])) [.cells [.fn 127 [.ext 0]]] [.tree .row true 3 r4 none]:=by
 intro s1 z2 s3 l4 r1 r2 r3 r4 h
 unfold F137 at h
 refine Trip.of tab_ok tab_one fol Try.func137 rfl (by kernel_rfl) rfl rfl rfl (fun M hM hI=>?_)
 try cbv
 refine seq_go ?_
 try cbv
 refine seq_go ?_
 try cbv
 replace h:=bO3_inv h
 obtain⟨z5,s6,l7,hr,h⟩:=h
 refine call_go rfl rfl ?_
 try cbv
 refine call_with hM hI [.ext 0] (T127 _ hr) rfl (by simp) ⟨rfl,trivial⟩ ⟨trivial,trivial⟩ (by simp) ?_
 clear hr
 try cbv
 refine seq_go ?_
 try cbv
 obtain⟨rfl,rfl,rfl,rfl⟩:=inj4 h
 refine fin_go ?_
 try cbv
 exact⟨[.loc 160],rfl,rfl,⟨rfl,trivial⟩,⟨rfl,trivial⟩,trivial⟩
mutual
def L140_1:Nat→(List D)→Int→Int→(List D)→Option (List D)
 | 0,_,_,_,_=>none
 | n+1,l1,z2,z3,l4=>
  (if z3<z2 then L140_2 n l1 z2 z3 l4 true else L140_2 n l1 z2 z3 l4 false)
def L140_2:Nat→(List D)→Int→Int→(List D)→Bool→Option (List D)
 | 0,_,_,_,_,_=>none
 | n+1,l1,z2,z3,l4,b5=>
  (if b5=true then getF l1 z3 fun x6=>ds_t136 x6 fun s7 z8 s9 l10=>bO4 (F137 n s7 z8 s9 l10) fun s11 z12 s13 l14=>appF 64 l4 ([.agg [.str s11,.int .u8 z12,.str s13,.list true 3 l14]]) fun l15=>letF (IntKind.wrap .i64 (z3+1)) fun z16=>L140_1 n l1 z2 z16 l15 else some l4)
end
def F140 (n:Nat) (l1:List D):Option (List D):=
 lenF l1 fun z2=>L140_1 n l1 z2 (0:Int) ([]:List D)
theorem T140 (n:Nat):∀⦃l1:List D⦄ ⦃r1:List D⦄,F140 n l1=some r1→
    Trip Try.prog inv 140 [.d (.list true 4 l1),.c (.fn 137 [.ext 0])] [.cells [.fn 127 [.ext 0]]] (.v (.c (.ow (.loc 0)))) [.cells [.fn 127 [.ext 0]]] [.tree .row true 4 r1 none]:=by
 intro l1 r1 h
 unfold F140 at h
 refine Trip.of tab_ok tab_one fol Try.func140 rfl (by kernel_rfl) rfl rfl rfl (fun M hM hI=>?_)
 try cbv
 refine seq_go ?_
 try cbv
 refine seq_go ?_
 try cbv
 refine seq_go ?_
 try cbv
 refine seq_go ?_
 try cbv
 replace h:=lenF_inv M h
 obtain⟨z2,hz,h⟩:=h
 refine⟨z2,hz,?_⟩
 clear hz
 try cbv
 refine loop_invG (T:=Nat×Int×List D) [.treeS 5 true 4] [] [1,4,5,8,9,10] [.ext 0,.loc 160] 192 (fun t=>⟨[(1,.v (.c (.fn 137 [.ext 0]))),(4,.v (.c (.nils true 4))),(5,.v (.c (.ow (.loc 160)))),(8,.v (.d (.list true 4 l1))),(9,.v (.d (.int .i64 z2))),(10,.v (.d (.int .i64 t.2.1)))],[(.ext 0,.cells [.fn 127 [.ext 0]]),(.loc 160,.tree .row true 4 t.2.2 none)],192⟩)
   (fun t=>t.1≤n∧L140_1 t.1 l1 z2 t.2.1 t.2.2=some r1) (fun t=>t.1) (n,((0:Int),([]:List D))) ⟨Nat.le_refl _,h⟩ (by cbv) ?_
 clear h
 rintro⟨m1,z3,l4⟩ ⟨hm1,h⟩
 replace hm1:m1≤n:=hm1
 obtain _ | m1:=m1
 ·replace h:L140_1 0 l1 z2 z3 l4=some r1:=h
  rw[L140_1]at h
  cases h
 replace h:L140_1 (m1+1) l1 z2 z3 l4=some r1:=h
 rw[L140_1]at h
 try cbv
 refine seq_join (T:=Nat×Bool) (fun t=>⟨[(1,.v (.c (.fn 137 [.ext 0]))),(4,.v (.c (.nils true 4))),(5,.v (.c (.ow (.loc 160)))),(8,.v (.d (.list true 4 l1))),(9,.v (.d (.int .i64 z2))),(10,.v (.d (.int .i64 z3))),(11,.v (.d (.bool t.2)))],[(.ext 0,.cells [.fn 127 [.ext 0]]),(.loc 160,.tree .row true 4 l4 none)],224⟩) (fun t=>t.1≤m1∧L140_2 t.1 l1 z2 z3 l4 t.2=some r1) ?_ ?_
 ·try cbv
  refine splitL (fun e=>?_) (fun e=>?_)
  ·replace h:=ite_t e h
   clear e
   try cbv
   exact join_next (m1,true) [1,4,5,8,9,10,11] [.ext 0,.loc 160] 224 ⟨by omega,h⟩ (by cbv)
  replace h:=ite_f (Int.not_lt.2 e) h
  clear e
  try cbv
  exact join_next (m1,false) [1,4,5,8,9,10,11] [.ext 0,.loc 160] 224 ⟨by omega,h⟩ (by cbv)
 clear h
 rintro⟨m2,b5⟩ ⟨hm2,h⟩
 replace hm2:m2≤m1:=hm2
 obtain _ | m2:=m2
 ·replace h:L140_2 0 l1 z2 z3 l4 b5=some r1:=h
  rw[L140_2]at h
  cases h
 replace h:L140_2 (m2+1) l1 z2 z3 l4 b5=some r1:=h
 rw[L140_2]at h
 try cbv
 refine seq_go ?_
 try cbv
 cases b5
 ·replace h:=ite_f Bool.false_ne_true h
  try cbv
  refine seq_go ?_
  try cbv
  obtain rfl:=Option.some.inj h
  refine fin_go ?_
  try cbv
  exact⟨[.loc 160],rfl,rfl,⟨rfl,trivial⟩,⟨rfl,trivial⟩,trivial⟩
 replace h:=ite_t rfl h
 try cbv
 refine seq_go ?_
 try cbv
 refine seq_go ?_
 try cbv
 replace h:=getF_inv h
 obtain⟨x6,⟨hx0,hx⟩,h⟩:=h
 refine⟨x6,hx0,hx,?_⟩
 clear hx0 hx
 replace h:=ds_t136_inv h
 obtain⟨s7,z8,s9,l10,rfl,h⟩:=h
 try cbv
 replace h:=bO4_inv h
 obtain⟨s11,z12,s13,l14,hr,h⟩:=h
 refine call_go rfl rfl ?_
 try cbv
 refine call_with hM hI [.ext 0] (T137 _ hr) rfl (by simp) ⟨rfl,trivial⟩ ⟨trivial,trivial⟩ (by simp) ?_
 clear hr
 try cbv
 refine⟨false,?_⟩
 try cbv
 refine⟨false,?_⟩
 try cbv
 refine op_pl ?_
 try cbv
 refine⟨true,?_⟩
 try cbv
 refine⟨true,?_⟩
 try cbv
 refine⟨[],?_⟩
 try cbv
 replace h:=appF_inv h
 obtain⟨l15,hb,hz,h⟩:=h
 refine⟨[.agg [.str s11,.int .u8 z12,.str s13,.list true 3 l14]],rfl,?_⟩
 try cbv
 refine⟨(M.lock_iff _).2 hb,l15,hz,?_⟩
 clear hb hz
 try cbv
 replace h:=letF_inv h
 obtain⟨z16,hz,h⟩:=h
 refine⟨z16,hz,?_⟩
 clear hz
 try cbv
 refine loop_nextG (m2,(z16,l15)) [] [(512,160)] [1,4,5,8,9,10] [.ext 0,.loc 512] 192 ⟨by omega,h⟩ (Nat.lt_succ_of_le (by omega)) ?_
 try cbv
def F139 (n:Nat) (z1:Int) (s2:ByteArray) (l3:List D) (z4:Int) (s5:ByteArray) (l6:List D) (l7:List D) (z8:Int) (z9:Int) (s10:ByteArray) (s11:ByteArray) (s12:ByteArray) (l13:List D) (l14:List D) (z15:Int) (z16:Int):Option (Int×ByteArray×Int×ByteArray×Int×Int×ByteArray×ByteArray×ByteArray×Int×Int×List D×List D×List D×List D×List D):=
 bO1 (F140 n l3) fun l17=>bO3 (F127 n z4 s5 l6) fun z18 s19 l20=>bO1 (F134 n l7) fun l21=>bO8 (F131 n z8 z9 s10 s11 s12 l13 l14 z15) fun z22 z23 s24 s25 s26 z27 l28 l29=>bO1 (F90 n z16) fun z30=>some (z1,s2,z18,s19,z22,z23,s24,s25,s26,z27,z30,l17,l20,l21,l28,l29)
theorem T139 (n:Nat):∀⦃z1:Int⦄ ⦃s2:ByteArray⦄ ⦃l3:List D⦄ ⦃z4:Int⦄ ⦃s5:ByteArray⦄ ⦃l6:List D⦄ ⦃l7:List D⦄ ⦃z8:Int⦄ ⦃z9:Int⦄ ⦃s10:ByteArray⦄ ⦃s11:ByteArray⦄ ⦃s12:ByteArray⦄ ⦃l13:List D⦄ ⦃l14:List D⦄ ⦃z15:Int⦄ ⦃z16:Int⦄ ⦃r1:Int⦄ ⦃r2:ByteArray⦄ ⦃r3:Int⦄ ⦃r4:ByteArray⦄ ⦃r5:Int⦄ ⦃r6:Int⦄ ⦃r7:ByteArray⦄ ⦃r8:ByteArray⦄ ⦃r9:ByteArray⦄ ⦃r10:Int⦄ ⦃r11:Int⦄ ⦃r12:List D⦄ ⦃r13:List D⦄ ⦃r14:List D⦄ ⦃r15:List D⦄ ⦃r16:List D⦄,F139 n z1 s2 l3 z4 s5 l6 l7 z8 z9 s10 s11 s12 l13 l14 z15 z16=some (r1,r2,r3,r4,r5,r6,r7,r8,r9,r10,r11,r12,r13,r14,r15,r16)→
    Trip Try.prog inv 139 [.d (.agg [.int .u8 z1,.str s2,.list true 4 l3,.int .u8 z4,.str s5,.list true 3 l6,.list true 15 l7,.int .u8 z8,.int .i64 z9,.str s10,.str s11,.str s12,.list false 1 l13,.list true 8 l14,.int .i64 z15,.int .i64 z16]),.c (.ptr (.ext 0) 0),.c (.ptr (.ext 1) 0),.c (.ptr (.ext 2) 0),.c (.ptr (.ext 4) 0),.c (.ptr (.ext 5) 0)] [.cells [.fn 137 [.ext 1]],.cells [.fn 127 [.ext 1]],.cells [.fn 135 [.ext 1,.ext 3,.ext 4,.ext 2,.ext 6,.ext 5]],.cells [.fn 129 []],.cells [.fn 131 [.ext 3,.ext 4,.ext 5]],.cells [.fn 90 []],.cells [.fn 133 [.ext 2]]] (.v (.agg [.d (.int .u8 r1),.d (.str r2),.ow (.loc 0),.d (.int .u8 r3),.d (.str r4),.ow (.loc 1),.ow (.loc 2),.d (.int .u8 r5),.d (.int .i64 r6),.d (.str r7),.d (.str r8),.d (.str r9),.ow (.loc 3),.ow (.loc 4),.d (.int .i64 r10),.d (.int .i64 r11)])) [.cells [.fn 137 [.ext 1]],.cells [.fn 127 [.ext 1]],.cells [.fn 135 [.ext 1,.ext 3,.ext 4,.ext 2,.ext 6,.ext 5]],.cells [.fn 129 []],.cells [.fn 131 [.ext 3,.ext 4,.ext 5]],.cells [.fn 90 []],.cells [.fn 133 [.ext 2]]] [.tree .row true 4 r12 none,.tree .row true 3 r13 none,.tree .row true 15 r14 none,.tree .row false 1 r15 none,.tree .row true 8 r16 none]:=by
 intro z1 s2 l3 z4 s5 l6 l7 z8 z9 s10 s11 s12 l13 l14 z15 z16 r1 r2 r3 r4 r5 r6 r7 r8 r9 r10 r11 r12 r13 r14 r15 r16 h
 unfold F139 at h
 refine Trip.of tab_ok tab_one fol Try.func139 rfl (by kernel_rfl) rfl rfl rfl (fun M hM hI=>?_)
 try cbv
 refine seq_go ?_
 try cbv
 refine seq_go ?_
 try cbv
 replace h:=bO1_inv h
 obtain⟨l17,hr,h⟩:=h
 first | refine .inr (.inr ⟨[.ext 1],?_⟩) | refine .inr ⟨[.ext 1],?_⟩
 try cbv
 refine call_with hM hI [.ext 1] (T140 _ hr) rfl (by simp) ⟨rfl,trivial⟩ ⟨trivial,trivial⟩ (by simp) ?_
 try cbv
 first | refine⟨(rfl:(_:Option AObj)=_),?_⟩ | skip
 try cbv
 clear hr
 try cbv
 replace h:=bO3_inv h
 obtain⟨z18,s19,l20,hr,h⟩:=h
 first | refine .inr (.inr ⟨[.ext 1],?_⟩) | refine .inr ⟨[.ext 1],?_⟩
 try cbv
 refine call_with hM hI [.ext 1] (T127 _ hr) rfl (by simp) ⟨rfl,trivial⟩ ⟨trivial,trivial⟩ (by simp) ?_
 try cbv
 first | refine⟨(rfl:(_:Option AObj)=_),?_⟩ | skip
 try cbv
 clear hr
 try cbv
 replace h:=bO1_inv h
 obtain⟨l21,hr,h⟩:=h
 first | refine .inr (.inr ⟨[.ext 1,.ext 3,.ext 4,.ext 5,.ext 2,.ext 6],?_⟩) | refine .inr ⟨[.ext 1,.ext 3,.ext 4,.ext 5,.ext 2,.ext 6],?_⟩
 try cbv
 refine call_with hM hI [.ext 1,.ext 3,.ext 4,.ext 5,.ext 2,.ext 6] (T134 _ hr) rfl (by simp) ⟨rfl,⟨rfl,⟨rfl,⟨rfl,⟨rfl,⟨rfl,trivial⟩⟩⟩⟩⟩⟩ ⟨trivial,⟨trivial,⟨trivial,⟨trivial,⟨trivial,⟨trivial,trivial⟩⟩⟩⟩⟩⟩ (by simp) ?_
 try cbv
 first | refine⟨(rfl:(_:Option AObj)=_),?_⟩ | skip
 first | refine⟨(rfl:(_:Option AObj)=_),?_⟩ | skip
 first | refine⟨(rfl:(_:Option AObj)=_),?_⟩ | skip
 first | refine⟨(rfl:(_:Option AObj)=_),?_⟩ | skip
 first | refine⟨(rfl:(_:Option AObj)=_),?_⟩ | skip
 first | refine⟨(rfl:(_:Option AObj)=_),?_⟩ | skip
 try cbv
 clear hr
 try cbv
 replace h:=bO8_inv h
 obtain⟨z22,z23,s24,s25,s26,z27,l28,l29,hr,h⟩:=h
 first | refine .inr (.inr ⟨[.ext 3,.ext 4,.ext 5],?_⟩) | refine .inr ⟨[.ext 3,.ext 4,.ext 5],?_⟩
 try cbv
 refine call_with hM hI [.ext 3,.ext 4,.ext 5] (T131 _ hr) rfl (by simp) ⟨rfl,⟨rfl,⟨rfl,trivial⟩⟩⟩ ⟨trivial,⟨trivial,⟨trivial,trivial⟩⟩⟩ (by simp) ?_
 try cbv
 first | refine⟨(rfl:(_:Option AObj)=_),?_⟩ | skip
 first | refine⟨(rfl:(_:Option AObj)=_),?_⟩ | skip
 first | refine⟨(rfl:(_:Option AObj)=_),?_⟩ | skip
 try cbv
 clear hr
 try cbv
 replace h:=bO1_inv h
 obtain⟨z30,hr,h⟩:=h
 first | refine .inr (.inl ⟨[],?_⟩) | refine .inl ⟨[],?_⟩
 try cbv
 refine call_pure hM hI (T90 _ hr) rfl ?_
 clear hr
 try cbv
 refine drawn ?_ ?_
 ·show _=true
  kernel_rfl
 try cbv
 refine seq_go ?_
 try cbv
 obtain⟨rfl,rfl,rfl,rfl,rfl,rfl,rfl,rfl,rfl,rfl,rfl,rfl,rfl,rfl,rfl,rfl⟩:=inj16 h
 refine fin_go ?_
 try cbv
 exact⟨[.loc 160,.loc 288,.loc 416,.loc 544,.loc 545],rfl,rfl,⟨rfl,⟨rfl,⟨rfl,⟨rfl,⟨rfl,⟨rfl,⟨rfl,trivial⟩⟩⟩⟩⟩⟩⟩,⟨rfl,⟨rfl,⟨rfl,⟨rfl,⟨rfl,trivial⟩⟩⟩⟩⟩,trivial⟩
mutual
def L138_1:Nat→(List D)→Int→Int→(List D)→Option (List D)
 | 0,_,_,_,_=>none
 | n+1,l1,z2,z3,l4=>
  (if z3<z2 then L138_2 n l1 z2 z3 l4 true else L138_2 n l1 z2 z3 l4 false)
def L138_2:Nat→(List D)→Int→Int→(List D)→Bool→Option (List D)
 | 0,_,_,_,_,_=>none
 | n+1,l1,z2,z3,l4,b5=>
  (if b5=true then getF l1 z3 fun x6=>ds_t126 x6 fun z7 s8 l9 z10 s11 l12 l13 z14 z15 s16 s17 s18 l19 l20 z21 z22=>bO16 (F139 n z7 s8 l9 z10 s11 l12 l13 z14 z15 s16 s17 s18 l19 l20 z21 z22) fun z23 s24 z25 s26 z27 z28 s29 s30 s31 z32 z33 l34 l35 l36 l37 l38=>appF 248 l4 ([.agg [.int .u8 z23,.str s24,.list true 4 l34,.int .u8 z25,.str s26,.list true 3 l35,.list true 15 l36,.int .u8 z27,.int .i64 z28,.str s29,.str s30,.str s31,.list false 1 l37,.list true 8 l38,.int .i64 z32,.int .i64 z33]]) fun l39=>letF (IntKind.wrap .i64 (z3+1)) fun z40=>L138_1 n l1 z2 z40 l39 else some l4)
end
def F138 (n:Nat) (l1:List D):Option (List D):=
 lenF l1 fun z2=>L138_1 n l1 z2 (0:Int) ([]:List D)
theorem T138 (n:Nat):∀⦃l1:List D⦄ ⦃r1:List D⦄,F138 n l1=some r1→
    Trip Try.prog inv 138 [.d (.list true 16 l1),.c (.fn 139 [.ext 0,.ext 1,.ext 2,.ext 4,.ext 5])] [.cells [.fn 137 [.ext 1]],.cells [.fn 127 [.ext 1]],.cells [.fn 135 [.ext 1,.ext 3,.ext 4,.ext 2,.ext 6,.ext 5]],.cells [.fn 129 []],.cells [.fn 131 [.ext 3,.ext 4,.ext 5]],.cells [.fn 90 []],.cells [.fn 133 [.ext 2]]] (.v (.c (.ow (.loc 0)))) [.cells [.fn 137 [.ext 1]],.cells [.fn 127 [.ext 1]],.cells [.fn 135 [.ext 1,.ext 3,.ext 4,.ext 2,.ext 6,.ext 5]],.cells [.fn 129 []],.cells [.fn 131 [.ext 3,.ext 4,.ext 5]],.cells [.fn 90 []],.cells [.fn 133 [.ext 2]]] [.tree .row true 16 r1 none]:=by
 intro l1 r1 h
 unfold F138 at h
 refine Trip.of tab_ok tab_one fol Try.func138 rfl (by kernel_rfl) rfl rfl rfl (fun M hM hI=>?_)
 try cbv
 refine seq_go ?_
 try cbv
 refine seq_go ?_
 try cbv
 refine seq_go ?_
 try cbv
 refine seq_go ?_
 try cbv
 replace h:=lenF_inv M h
 obtain⟨z2,hz,h⟩:=h
 refine⟨z2,hz,?_⟩
 clear hz
 try cbv
 refine loop_invG (T:=Nat×Int×List D) [.treeS 5 true 16] [] [1,4,5,8,9,10] [.ext 0,.ext 1,.ext 2,.ext 3,.ext 4,.ext 5,.ext 6,.loc 160] 192 (fun t=>⟨[(1,.v (.c (.fn 139 [.ext 0,.ext 1,.ext 2,.ext 4,.ext 5]))),(4,.v (.c (.nils true 16))),(5,.v (.c (.ow (.loc 160)))),(8,.v (.d (.list true 16 l1))),(9,.v (.d (.int .i64 z2))),(10,.v (.d (.int .i64 t.2.1)))],[(.ext 0,.cells [.fn 137 [.ext 1]]),(.ext 1,.cells [.fn 127 [.ext 1]]),(.ext 2,.cells [.fn 135 [.ext 1,.ext 3,.ext 4,.ext 2,.ext 6,.ext 5]]),(.ext 3,.cells [.fn 129 []]),(.ext 4,.cells [.fn 131 [.ext 3,.ext 4,.ext 5]]),(.ext 5,.cells [.fn 90 []]),(.ext 6,.cells [.fn 133 [.ext 2]]),(.loc 160,.tree .row true 16 t.2.2 none)],192⟩)
   (fun t=>t.1≤n∧L138_1 t.1 l1 z2 t.2.1 t.2.2=some r1) (fun t=>t.1) (n,((0:Int),([]:List D))) ⟨Nat.le_refl _,h⟩ (by cbv) ?_
 clear h
 rintro⟨m1,z3,l4⟩ ⟨hm1,h⟩
 replace hm1:m1≤n:=hm1
 obtain _ | m1:=m1
 ·replace h:L138_1 0 l1 z2 z3 l4=some r1:=h
  rw[L138_1]at h
  cases h
 replace h:L138_1 (m1+1) l1 z2 z3 l4=some r1:=h
 rw[L138_1]at h
 try cbv
 refine seq_join (T:=Nat×Bool) (fun t=>⟨[(1,.v (.c (.fn 139 [.ext 0,.ext 1,.ext 2,.ext 4,.ext 5]))),(4,.v (.c (.nils true 16))),(5,.v (.c (.ow (.loc 160)))),(8,.v (.d (.list true 16 l1))),(9,.v (.d (.int .i64 z2))),(10,.v (.d (.int .i64 z3))),(11,.v (.d (.bool t.2)))],[(.ext 0,.cells [.fn 137 [.ext 1]]),(.ext 1,.cells [.fn 127 [.ext 1]]),(.ext 2,.cells [.fn 135 [.ext 1,.ext 3,.ext 4,.ext 2,.ext 6,.ext 5]]),(.ext 3,.cells [.fn 129 []]),(.ext 4,.cells [.fn 131 [.ext 3,.ext 4,.ext 5]]),(.ext 5,.cells [.fn 90 []]),(.ext 6,.cells [.fn 133 [.ext 2]]),(.loc 160,.tree .row true 16 l4 none)],224⟩) (fun t=>t.1≤m1∧L138_2 t.1 l1 z2 z3 l4 t.2=some r1) ?_ ?_
 ·try cbv
  refine splitL (fun e=>?_) (fun e=>?_)
  ·replace h:=ite_t e h
   clear e
   try cbv
   exact join_next (m1,true) [1,4,5,8,9,10,11] [.ext 0,.ext 1,.ext 2,.ext 3,.ext 4,.ext 5,.ext 6,.loc 160] 224 ⟨by omega,h⟩ (by cbv)
  replace h:=ite_f (Int.not_lt.2 e) h
  clear e
  try cbv
  exact join_next (m1,false) [1,4,5,8,9,10,11] [.ext 0,.ext 1,.ext 2,.ext 3,.ext 4,.ext 5,.ext 6,.loc 160] 224 ⟨by omega,h⟩ (by cbv)
 clear h
 rintro⟨m2,b5⟩ ⟨hm2,h⟩
 replace hm2:m2≤m1:=hm2
 obtain _ | m2:=m2
 ·replace h:L138_2 0 l1 z2 z3 l4 b5=some r1:=h
  rw[L138_2]at h
  cases h
 replace h:L138_2 (m2+1) l1 z2 z3 l4 b5=some r1:=h
 rw[L138_2]at h
 try cbv
 refine seq_go ?_
 try cbv
 cases b5
 ·replace h:=ite_f Bool.false_ne_true h
  try cbv
  refine seq_go ?_
  try cbv
  obtain rfl:=Option.some.inj h
  refine fin_go ?_
  try cbv
  exact⟨[.loc 160],rfl,rfl,⟨rfl,⟨rfl,⟨rfl,⟨rfl,⟨rfl,⟨rfl,⟨rfl,trivial⟩⟩⟩⟩⟩⟩⟩,⟨rfl,trivial⟩,trivial⟩
 replace h:=ite_t rfl h
 try cbv
 refine seq_go ?_
 try cbv
 refine seq_go ?_
 try cbv
 replace h:=getF_inv h
 obtain⟨x6,⟨hx0,hx⟩,h⟩:=h
 refine⟨x6,hx0,hx,?_⟩
 clear hx0 hx
 replace h:=ds_t126_inv h
 obtain⟨z7,s8,l9,z10,s11,l12,l13,z14,z15,s16,s17,s18,l19,l20,z21,z22,rfl,h⟩:=h
 try cbv
 replace h:=bO16_inv h
 obtain⟨z23,s24,z25,s26,z27,z28,s29,s30,s31,z32,z33,l34,l35,l36,l37,l38,hr,h⟩:=h
 refine call_go rfl rfl ?_
 try cbv
 refine call_with hM hI [.ext 0,.ext 1,.ext 2,.ext 3,.ext 4,.ext 5,.ext 6] (T139 _ hr) rfl (by simp) ⟨rfl,⟨rfl,⟨rfl,⟨rfl,⟨rfl,⟨rfl,⟨rfl,trivial⟩⟩⟩⟩⟩⟩⟩ ⟨trivial,⟨trivial,⟨trivial,⟨trivial,⟨trivial,⟨trivial,⟨trivial,trivial⟩⟩⟩⟩⟩⟩⟩ (by simp) ?_
 clear hr
 try cbv
 refine⟨false,?_⟩
 try cbv
 refine⟨false,?_⟩
 try cbv
 refine op_pl ?_
 try cbv
 refine⟨true,?_⟩
 try cbv
 refine⟨true,?_⟩
 try cbv
 refine⟨[],?_⟩
 try cbv
 replace h:=appF_inv h
 obtain⟨l39,hb,hz,h⟩:=h
 refine⟨[.agg [.int .u8 z23,.str s24,.list true 4 l34,.int .u8 z25,.str s26,.list true 3 l35,.list true 15 l36,.int .u8 z27,.int .i64 z28,.str s29,.str s30,.str s31,.list false 1 l37,.list true 8 l38,.int .i64 z32,.int .i64 z33]],rfl,?_⟩
 try cbv
 refine⟨(M.lock_iff _).2 hb,l39,hz,?_⟩
 clear hb hz
 try cbv
 replace h:=letF_inv h
 obtain⟨z40,hz,h⟩:=h
 refine⟨z40,hz,?_⟩
 clear hz
 try cbv
 refine loop_nextG (m2,(z40,l39)) [] [(512,160)] [1,4,5,8,9,10] [.ext 0,.ext 1,.ext 2,.ext 3,.ext 4,.ext 5,.ext 6,.loc 512] 192 ⟨by omega,h⟩ (Nat.lt_succ_of_le (by omega)) ?_
 try cbv
def F89 (n:Nat) (l1:List D):Option (List D):=
 bO1 (F138 n l1) fun l2=>some l2
theorem T89 (n:Nat):∀⦃l1:List D⦄ ⦃r1:List D⦄,F89 n l1=some r1→
    Trip Try.prog inv 89 [.d (.agg [.list true 16 l1]),.c (.fn 90 [])] [] (.v (.agg [.ow (.loc 0)])) [] [.tree .row true 16 r1 none]:=by
 intro l1 r1 h
 unfold F89 at h
 refine Trip.of tab_ok tab_one fol Try.func89 rfl (by kernel_rfl) rfl rfl rfl (fun M hM hI=>?_)
 try cbv
 refine seq_go ?_
 try cbv
 refine seq_go ?_
 try cbv
 refine seq_go ?_
 try cbv
 refine seq_go ?_
 try cbv
 refine seq_go ?_
 try cbv
 refine seq_go ?_
 try cbv
 refine seq_go ?_
 try cbv
 refine seq_go ?_
 try cbv
 refine seq_go ?_
 try cbv
 refine seq_go ?_
 try cbv
 refine seq_go ?_
 try cbv
 replace h:=bO1_inv h
 obtain⟨l2,hr,h⟩:=h
 refine call_go rfl rfl ?_
 try cbv
 refine call_with hM hI [.loc 576,.loc 96,.loc 160,.loc 256,.loc 128,.loc 32,.loc 416] (T138 _ hr) rfl (by simp) ⟨rfl,⟨rfl,⟨rfl,⟨rfl,⟨rfl,⟨rfl,⟨rfl,trivial⟩⟩⟩⟩⟩⟩⟩ ⟨trivial,⟨trivial,⟨trivial,⟨trivial,⟨trivial,⟨trivial,⟨trivial,trivial⟩⟩⟩⟩⟩⟩⟩ (by simp) ?_
 clear hr
 try cbv
 obtain rfl:=Option.some.inj h
 refine fin_go ?_
 try cbv
 exact⟨[.loc 736],rfl,rfl,trivial,⟨rfl,trivial⟩,trivial⟩
def F25 (n:Nat) (l1:List D):Option (List D):=
 bO1 (F89 n l1) fun l2=>some l2
theorem T25 (n:Nat):∀⦃l1:List D⦄ ⦃r1:List D⦄,F25 n l1=some r1→
    Trip Try.prog inv 25 [.d (.agg [.list true 16 l1])] [] (.v (.agg [.ow (.loc 0)])) [] [.tree .row true 16 r1 none]:=by
 intro l1 r1 h
 unfold F25 at h
 refine Trip.of tab_ok tab_one fol Try.func25 rfl (by kernel_rfl) rfl rfl rfl (fun M hM hI=>?_)
 try cbv
 refine seq_go ?_
 try cbv
 refine seq_go ?_
 try cbv
 replace h:=bO1_inv h
 obtain⟨l2,hr,h⟩:=h
 refine call_go rfl rfl ?_
 try cbv
 refine call_with hM hI [] (T89 _ hr) rfl (by simp) trivial trivial (by simp) ?_
 clear hr
 try cbv
 obtain rfl:=Option.some.inj h
 refine fin_go ?_
 try cbv
 exact⟨[.loc 96],rfl,rfl,trivial,⟨rfl,trivial⟩,trivial⟩
def F91 (n:Nat) (z1:Int):Option (Unit):=
 some ()
theorem T91 (n:Nat):∀⦃z1:Int⦄,F91 n z1=some ()→
    Trip Try.prog inv 91 [.d (.int .i64 z1)] [] (.v (.d (.int .i64 0))) [] []:=by
 intro z1 h
 unfold F91 at h
 refine Trip.of tab_ok tab_one fol Try.func91 rfl (by kernel_rfl) rfl rfl rfl (fun M hM hI=>?_)
 try cbv
 refine seq_go ?_
 try cbv
 refine seq_go ?_
 try cbv
 skip
 refine fin_go ?_
 try cbv
 exact⟨[],rfl,rfl,trivial,trivial,trivial⟩
mutual
def F131x1:Nat→Int→Int→ByteArray→ByteArray→ByteArray→(List D)→(List D)→Int→Option (Int×Int×ByteArray×ByteArray×ByteArray×List D×List D)
 | 0,_,_,_,_,_,_,_,_=>none
 | n+1,z1,z2,s3,s4,s5,l6,l7,z8=>
  bO2 (F129 n s5 l6) fun s9 l10=>bO1 (F132x1 n l7) fun l11=>bO0 (F91 n z8) (some (z1,z2,s3,s4,s9,l10,l11))
def L132x1_1:Nat→(List D)→Int→Int→(List D)→Option (List D)
 | 0,_,_,_,_=>none
 | n+1,l1,z2,z3,l4=>
  (if z3<z2 then L132x1_2 n l1 z2 z3 l4 true else L132x1_2 n l1 z2 z3 l4 false)
def L132x1_2:Nat→(List D)→Int→Int→(List D)→Bool→Option (List D)
 | 0,_,_,_,_,_=>none
 | n+1,l1,z2,z3,l4,b5=>
  (if b5=true then getF l1 z3 fun x6=>ds_t33 x6 fun z7 z8 s9 s10 s11 l12 l13 z14=>bO7 (F131x1 n z7 z8 s9 s10 s11 l12 l13 z14) fun z15 z16 s17 s18 s19 l20 l21=>appF 120 l4 ([.agg [.int .u8 z15,.int .i64 z16,.str s17,.str s18,.str s19,.list false 1 l20,.list true 8 l21,.int .i64 0]]) fun l22=>letF (IntKind.wrap .i64 (z3+1)) fun z23=>L132x1_1 n l1 z2 z23 l22 else some l4)
def F132x1:Nat→(List D)→Option (List D)
 | 0,_=>none
 | n+1,l1=>
  lenF l1 fun z2=>L132x1_1 n l1 z2 (0:Int) ([]:List D)
end
theorem G131x1 (n:Nat):(∀⦃z1:Int⦄ ⦃z2:Int⦄ ⦃s3:ByteArray⦄ ⦃s4:ByteArray⦄ ⦃s5:ByteArray⦄ ⦃l6:List D⦄ ⦃l7:List D⦄ ⦃z8:Int⦄ ⦃r1:Int⦄ ⦃r2:Int⦄ ⦃r3:ByteArray⦄ ⦃r4:ByteArray⦄ ⦃r5:ByteArray⦄ ⦃r6:List D⦄ ⦃r7:List D⦄,F131x1 n z1 z2 s3 s4 s5 l6 l7 z8=some (r1,r2,r3,r4,r5,r6,r7)→
    Trip Try.prog inv 131 [.d (.agg [.int .u8 z1,.int .i64 z2,.str s3,.str s4,.str s5,.list false 1 l6,.list true 8 l7,.int .i64 z8]),.c (.ptr (.ext 0) 0),.c (.ptr (.ext 1) 0),.c (.ptr (.ext 2) 0)] [.cells [.fn 129 []],.cells [.fn 131 [.ext 0,.ext 1,.ext 2]],.cells [.fn 91 []]] (.v (.agg [.d (.int .u8 r1),.d (.int .i64 r2),.d (.str r3),.d (.str r4),.d (.str r5),.ow (.loc 0),.ow (.loc 1),.d (.int .i64 0)])) [.cells [.fn 129 []],.cells [.fn 131 [.ext 0,.ext 1,.ext 2]],.cells [.fn 91 []]] [.tree .row false 1 r6 none,.tree .row true 8 r7 none])∧
    (∀⦃l1:List D⦄ ⦃r1:List D⦄,F132x1 n l1=some r1→
    Trip Try.prog inv 132 [.d (.list true 8 l1),.c (.fn 131 [.ext 0,.ext 1,.ext 2])] [.cells [.fn 129 []],.cells [.fn 131 [.ext 0,.ext 1,.ext 2]],.cells [.fn 91 []]] (.v (.c (.ow (.loc 0)))) [.cells [.fn 129 []],.cells [.fn 131 [.ext 0,.ext 1,.ext 2]],.cells [.fn 91 []]] [.tree .row true 8 r1 none]):=by
 induction n using Nat.strongRecOn with | _ n ih=>
 obtain _ | n:=n
 ·refine⟨?_,?_⟩
  ·intro z1 z2 s3 s4 s5 l6 l7 z8 r1 r2 r3 r4 r5 r6 r7 h
   cases (show (none:Option _)=some _ from h)
  intro l1 r1 h
  cases (show (none:Option _)=some _ from h)
 refine⟨?_,?_⟩
 ·intro z1 z2 s3 s4 s5 l6 l7 z8 r1 r2 r3 r4 r5 r6 r7 h
  rw[F131x1]at h
  refine Trip.of tab_ok tab_one fol Try.func131 rfl (by kernel_rfl) rfl rfl rfl (fun M hM hI=>?_)
  try cbv
  refine seq_go ?_
  try cbv
  refine seq_go ?_
  try cbv
  replace h:=bO2_inv h
  obtain⟨s9,l10,hr,h⟩:=h
  first | refine .inr (.inl ⟨[],?_⟩) | refine .inl ⟨[],?_⟩
  try cbv
  refine call_with hM hI [] (T129 _ hr) rfl (by simp) trivial trivial (by simp) ?_
  clear hr
  try cbv
  replace h:=bO1_inv h
  obtain⟨l11,hr,h⟩:=h
  first | refine .inr (.inr ⟨[.ext 0,.ext 1,.ext 2],?_⟩) | refine .inr ⟨[.ext 0,.ext 1,.ext 2],?_⟩
  try cbv
  refine call_with hM hI [.ext 0,.ext 1,.ext 2] ((ih _ (by omega)).2 hr) rfl (by simp) ⟨rfl,⟨rfl,⟨rfl,trivial⟩⟩⟩ ⟨trivial,⟨trivial,⟨trivial,trivial⟩⟩⟩ (by simp) ?_
  try cbv
  first | refine⟨(rfl:(_:Option AObj)=_),?_⟩ | skip
  first | refine⟨(rfl:(_:Option AObj)=_),?_⟩ | skip
  first | refine⟨(rfl:(_:Option AObj)=_),?_⟩ | skip
  try cbv
  clear hr
  try cbv
  replace h:=bO0_inv h
  obtain⟨hr,h⟩:=h
  first | refine .inr (.inl ⟨[],?_⟩) | refine .inl ⟨[],?_⟩
  try cbv
  refine call_pure hM hI (T91 _ hr) rfl ?_
  clear hr
  try cbv
  refine drawn ?_ ?_
  ·show _=true
   kernel_rfl
  try cbv
  refine seq_go ?_
  try cbv
  obtain⟨rfl,rfl,rfl,rfl,rfl,rfl,rfl⟩:=inj7 h
  refine fin_go ?_
  try cbv
  exact⟨[.loc 160,.loc 288],rfl,rfl,⟨rfl,⟨rfl,⟨rfl,trivial⟩⟩⟩,⟨rfl,⟨rfl,trivial⟩⟩,trivial⟩
 intro l1 r1 h
 rw[F132x1]at h
 refine Trip.of tab_ok tab_one fol Try.func132 rfl (by kernel_rfl) rfl rfl rfl (fun M hM hI=>?_)
 try cbv
 refine seq_go ?_
 try cbv
 refine seq_go ?_
 try cbv
 refine seq_go ?_
 try cbv
 refine seq_go ?_
 try cbv
 replace h:=lenF_inv M h
 obtain⟨z2,hz,h⟩:=h
 refine⟨z2,hz,?_⟩
 clear hz
 try cbv
 refine loop_invG (T:=Nat×Int×List D) [.treeS 5 true 8] [] [1,4,5,8,9,10] [.ext 0,.ext 1,.ext 2,.loc 160] 192 (fun t=>⟨[(1,.v (.c (.fn 131 [.ext 0,.ext 1,.ext 2]))),(4,.v (.c (.nils true 8))),(5,.v (.c (.ow (.loc 160)))),(8,.v (.d (.list true 8 l1))),(9,.v (.d (.int .i64 z2))),(10,.v (.d (.int .i64 t.2.1)))],[(.ext 0,.cells [.fn 129 []]),(.ext 1,.cells [.fn 131 [.ext 0,.ext 1,.ext 2]]),(.ext 2,.cells [.fn 91 []]),(.loc 160,.tree .row true 8 t.2.2 none)],192⟩)
   (fun t=>t.1≤n∧L132x1_1 t.1 l1 z2 t.2.1 t.2.2=some r1) (fun t=>t.1) (n,((0:Int),([]:List D))) ⟨Nat.le_refl _,h⟩ (by cbv) ?_
 clear h
 rintro⟨m1,z3,l4⟩ ⟨hm1,h⟩
 replace hm1:m1≤n:=hm1
 obtain _ | m1:=m1
 ·replace h:L132x1_1 0 l1 z2 z3 l4=some r1:=h
  rw[L132x1_1]at h
  cases h
 replace h:L132x1_1 (m1+1) l1 z2 z3 l4=some r1:=h
 rw[L132x1_1]at h
 try cbv
 refine seq_join (T:=Nat×Bool) (fun t=>⟨[(1,.v (.c (.fn 131 [.ext 0,.ext 1,.ext 2]))),(4,.v (.c (.nils true 8))),(5,.v (.c (.ow (.loc 160)))),(8,.v (.d (.list true 8 l1))),(9,.v (.d (.int .i64 z2))),(10,.v (.d (.int .i64 z3))),(11,.v (.d (.bool t.2)))],[(.ext 0,.cells [.fn 129 []]),(.ext 1,.cells [.fn 131 [.ext 0,.ext 1,.ext 2]]),(.ext 2,.cells [.fn 91 []]),(.loc 160,.tree .row true 8 l4 none)],224⟩) (fun t=>t.1≤m1∧L132x1_2 t.1 l1 z2 z3 l4 t.2=some r1) ?_ ?_
 ·try cbv
  refine splitL (fun e=>?_) (fun e=>?_)
  ·replace h:=ite_t e h
   clear e
   try cbv
   exact join_next (m1,true) [1,4,5,8,9,10,11] [.ext 0,.ext 1,.ext 2,.loc 160] 224 ⟨by omega,h⟩ (by cbv)
  replace h:=ite_f (Int.not_lt.2 e) h
  clear e
  try cbv
  exact join_next (m1,false) [1,4,5,8,9,10,11] [.ext 0,.ext 1,.ext 2,.loc 160] 224 ⟨by omega,h⟩ (by cbv)
 clear h
 rintro⟨m2,b5⟩ ⟨hm2,h⟩
 replace hm2:m2≤m1:=hm2
 obtain _ | m2:=m2
 ·replace h:L132x1_2 0 l1 z2 z3 l4 b5=some r1:=h
  rw[L132x1_2]at h
  cases h
 replace h:L132x1_2 (m2+1) l1 z2 z3 l4 b5=some r1:=h
 rw[L132x1_2]at h
 try cbv
 refine seq_go ?_
 try cbv
 cases b5
 ·replace h:=ite_f Bool.false_ne_true h
  try cbv
  refine seq_go ?_
  try cbv
  obtain rfl:=Option.some.inj h
  refine fin_go ?_
  try cbv
  exact⟨[.loc 160],rfl,rfl,⟨rfl,⟨rfl,⟨rfl,trivial⟩⟩⟩,⟨rfl,trivial⟩,trivial⟩
 replace h:=ite_t rfl h
 try cbv
 refine seq_go ?_
 try cbv
 refine seq_go ?_
 try cbv
 replace h:=getF_inv h
 obtain⟨x6,⟨hx0,hx⟩,h⟩:=h
 refine⟨x6,hx0,hx,?_⟩
 clear hx0 hx
 replace h:=ds_t33_inv h
 obtain⟨z7,z8,s9,s10,s11,l12,l13,z14,rfl,h⟩:=h
 try cbv
 replace h:=bO7_inv h
 obtain⟨z15,z16,s17,s18,s19,l20,l21,hr,h⟩:=h
 refine call_go rfl rfl ?_
 try cbv
 refine call_with hM hI [.ext 0,.ext 1,.ext 2] ((ih _ (by omega)).1 hr) rfl (by simp) ⟨rfl,⟨rfl,⟨rfl,trivial⟩⟩⟩ ⟨trivial,⟨trivial,⟨trivial,trivial⟩⟩⟩ (by simp) ?_
 clear hr
 try cbv
 refine⟨false,?_⟩
 try cbv
 refine⟨false,?_⟩
 try cbv
 refine op_pl ?_
 try cbv
 refine⟨true,?_⟩
 try cbv
 refine⟨true,?_⟩
 try cbv
 refine⟨[],?_⟩
 try cbv
 replace h:=appF_inv h
 obtain⟨l22,hb,hz,h⟩:=h
 refine⟨[.agg [.int .u8 z15,.int .i64 z16,.str s17,.str s18,.str s19,.list false 1 l20,.list true 8 l21,.int .i64 0]],rfl,?_⟩
 try cbv
 refine⟨(M.lock_iff _).2 hb,l22,hz,?_⟩
 clear hb hz
 try cbv
 replace h:=letF_inv h
 obtain⟨z23,hz,h⟩:=h
 refine⟨z23,hz,?_⟩
 clear hz
 try cbv
 refine loop_nextG (m2,(z23,l22)) [] [(512,160)] [1,4,5,8,9,10] [.ext 0,.ext 1,.ext 2,.loc 512] 192 ⟨by omega,h⟩ (Nat.lt_succ_of_le (by omega)) ?_
 try cbv
theorem T131x1 (n:Nat):∀⦃z1:Int⦄ ⦃z2:Int⦄ ⦃s3:ByteArray⦄ ⦃s4:ByteArray⦄ ⦃s5:ByteArray⦄ ⦃l6:List D⦄ ⦃l7:List D⦄ ⦃z8:Int⦄ ⦃r1:Int⦄ ⦃r2:Int⦄ ⦃r3:ByteArray⦄ ⦃r4:ByteArray⦄ ⦃r5:ByteArray⦄ ⦃r6:List D⦄ ⦃r7:List D⦄,F131x1 n z1 z2 s3 s4 s5 l6 l7 z8=some (r1,r2,r3,r4,r5,r6,r7)→
  Trip Try.prog inv 131 [.d (.agg [.int .u8 z1,.int .i64 z2,.str s3,.str s4,.str s5,.list false 1 l6,.list true 8 l7,.int .i64 z8]),.c (.ptr (.ext 0) 0),.c (.ptr (.ext 1) 0),.c (.ptr (.ext 2) 0)] [.cells [.fn 129 []],.cells [.fn 131 [.ext 0,.ext 1,.ext 2]],.cells [.fn 91 []]] (.v (.agg [.d (.int .u8 r1),.d (.int .i64 r2),.d (.str r3),.d (.str r4),.d (.str r5),.ow (.loc 0),.ow (.loc 1),.d (.int .i64 0)])) [.cells [.fn 129 []],.cells [.fn 131 [.ext 0,.ext 1,.ext 2]],.cells [.fn 91 []]] [.tree .row false 1 r6 none,.tree .row true 8 r7 none]:=(G131x1 n).1
theorem T132x1 (n:Nat):∀⦃l1:List D⦄ ⦃r1:List D⦄,F132x1 n l1=some r1→
  Trip Try.prog inv 132 [.d (.list true 8 l1),.c (.fn 131 [.ext 0,.ext 1,.ext 2])] [.cells [.fn 129 []],.cells [.fn 131 [.ext 0,.ext 1,.ext 2]],.cells [.fn 91 []]] (.v (.c (.ow (.loc 0)))) [.cells [.fn 129 []],.cells [.fn 131 [.ext 0,.ext 1,.ext 2]],.cells [.fn 91 []]] [.tree .row true 8 r1 none]:=(G131x1 n).2
mutual
def F133x1:Nat→ByteArray→ByteArray→(List D)→Option (ByteArray×ByteArray×List D)
 | 0,_,_,_=>none
 | n+1,s1,s2,l3=>
  bO1 (F134x1 n l3) fun l4=>some (s1,s2,l4)
def L136x1_1:Nat→(List D)→Int→Int→(List D)→Option (List D)
 | 0,_,_,_,_=>none
 | n+1,l1,z2,z3,l4=>
  (if z3<z2 then L136x1_2 n l1 z2 z3 l4 true else L136x1_2 n l1 z2 z3 l4 false)
def L136x1_2:Nat→(List D)→Int→Int→(List D)→Bool→Option (List D)
 | 0,_,_,_,_,_=>none
 | n+1,l1,z2,z3,l4,b5=>
  (if b5=true then getF l1 z3 fun x6=>ds_t154 x6 fun s7 s8 l9=>bO3 (F133x1 n s7 s8 l9) fun s10 s11 l12=>appF 56 l4 ([.agg [.str s10,.str s11,.list true 15 l12]]) fun l13=>letF (IntKind.wrap .i64 (z3+1)) fun z14=>L136x1_1 n l1 z2 z14 l13 else some l4)
def F136x1:Nat→(List D)→Option (List D)
 | 0,_=>none
 | n+1,l1=>
  lenF l1 fun z2=>L136x1_1 n l1 z2 (0:Int) ([]:List D)
def F135x1:Nat→Int→ByteArray→ByteArray→(List D)→Int→ByteArray→(List D)→Int→ByteArray→(List D)→(List D)→(List D)→(List D)→(List D)→Int→Option (Int×ByteArray×ByteArray×Int×ByteArray×Int×ByteArray×List D×List D×List D×List D×List D×List D×List D)
 | 0,_,_,_,_,_,_,_,_,_,_,_,_,_,_,_=>none
 | n+1,z1,s2,s3,l4,z5,s6,l7,z8,s9,l10,l11,l12,l13,l14,z15=>
  bO1 (F130 n l4) fun l16=>bO3 (F127 n z5 s6 l7) fun z17 s18 l19=>bO2 (F129 n s9 l10) fun s20 l21=>bO1 (F132x1 n l11) fun l22=>bO1 (F134x1 n l12) fun l23=>bO1 (F134x1 n l13) fun l24=>bO1 (F136x1 n l14) fun l25=>bO0 (F91 n z15) (some (z1,s2,s3,z17,s18,z8,s20,l16,l19,l21,l22,l23,l24,l25))
def L134x1_1:Nat→(List D)→Int→Int→(List D)→Option (List D)
 | 0,_,_,_,_=>none
 | n+1,l1,z2,z3,l4=>
  (if z3<z2 then L134x1_2 n l1 z2 z3 l4 true else L134x1_2 n l1 z2 z3 l4 false)
def L134x1_2:Nat→(List D)→Int→Int→(List D)→Bool→Option (List D)
 | 0,_,_,_,_,_=>none
 | n+1,l1,z2,z3,l4,b5=>
  (if b5=true then getF l1 z3 fun x6=>ds_t152 x6 fun z7 s8 s9 l10 z11 s12 l13 z14 s15 l16 l17 l18 l19 l20 z21=>bO14 (F135x1 n z7 s8 s9 l10 z11 s12 l13 z14 s15 l16 l17 l18 l19 l20 z21) fun z22 s23 s24 z25 s26 z27 s28 l29 l30 l31 l32 l33 l34 l35=>appF 264 l4 ([.agg [.int .u8 z22,.str s23,.str s24,.list false 1 l29,.int .u8 z25,.str s26,.list true 3 l30,.int .i64 z27,.str s28,.list false 1 l31,.list true 8 l32,.list true 15 l33,.list true 15 l34,.list true 3 l35,.int .i64 0]]) fun l36=>letF (IntKind.wrap .i64 (z3+1)) fun z37=>L134x1_1 n l1 z2 z37 l36 else some l4)
def F134x1:Nat→(List D)→Option (List D)
 | 0,_=>none
 | n+1,l1=>
  lenF l1 fun z2=>L134x1_1 n l1 z2 (0:Int) ([]:List D)
end
theorem G133x1 (n:Nat):(∀⦃s1:ByteArray⦄ ⦃s2:ByteArray⦄ ⦃l3:List D⦄ ⦃r1:ByteArray⦄ ⦃r2:ByteArray⦄ ⦃r3:List D⦄,F133x1 n s1 s2 l3=some (r1,r2,r3)→
    Trip Try.prog inv 133 [.d (.agg [.str s1,.str s2,.list true 15 l3]),.c (.ptr (.ext 0) 0)] [.cells [.fn 135 [.ext 1,.ext 2,.ext 3,.ext 0,.ext 5,.ext 4]],.cells [.fn 127 [.ext 1]],.cells [.fn 129 []],.cells [.fn 131 [.ext 2,.ext 3,.ext 4]],.cells [.fn 91 []],.cells [.fn 133 [.ext 0]]] (.v (.agg [.d (.str r1),.d (.str r2),.ow (.loc 0)])) [.cells [.fn 135 [.ext 1,.ext 2,.ext 3,.ext 0,.ext 5,.ext 4]],.cells [.fn 127 [.ext 1]],.cells [.fn 129 []],.cells [.fn 131 [.ext 2,.ext 3,.ext 4]],.cells [.fn 91 []],.cells [.fn 133 [.ext 0]]] [.tree .row true 15 r3 none])∧
    (∀⦃l1:List D⦄ ⦃r1:List D⦄,F136x1 n l1=some r1→
    Trip Try.prog inv 136 [.d (.list true 3 l1),.c (.fn 133 [.ext 0])] [.cells [.fn 135 [.ext 1,.ext 2,.ext 3,.ext 0,.ext 5,.ext 4]],.cells [.fn 127 [.ext 1]],.cells [.fn 129 []],.cells [.fn 131 [.ext 2,.ext 3,.ext 4]],.cells [.fn 91 []],.cells [.fn 133 [.ext 0]]] (.v (.c (.ow (.loc 0)))) [.cells [.fn 135 [.ext 1,.ext 2,.ext 3,.ext 0,.ext 5,.ext 4]],.cells [.fn 127 [.ext 1]],.cells [.fn 129 []],.cells [.fn 131 [.ext 2,.ext 3,.ext 4]],.cells [.fn 91 []],.cells [.fn 133 [.ext 0]]] [.tree .row true 3 r1 none])∧
    (∀⦃z1:Int⦄ ⦃s2:ByteArray⦄ ⦃s3:ByteArray⦄ ⦃l4:List D⦄ ⦃z5:Int⦄ ⦃s6:ByteArray⦄ ⦃l7:List D⦄ ⦃z8:Int⦄ ⦃s9:ByteArray⦄ ⦃l10:List D⦄ ⦃l11:List D⦄ ⦃l12:List D⦄ ⦃l13:List D⦄ ⦃l14:List D⦄ ⦃z15:Int⦄ ⦃r1:Int⦄ ⦃r2:ByteArray⦄ ⦃r3:ByteArray⦄ ⦃r4:Int⦄ ⦃r5:ByteArray⦄ ⦃r6:Int⦄ ⦃r7:ByteArray⦄ ⦃r8:List D⦄ ⦃r9:List D⦄ ⦃r10:List D⦄ ⦃r11:List D⦄ ⦃r12:List D⦄ ⦃r13:List D⦄ ⦃r14:List D⦄,F135x1 n z1 s2 s3 l4 z5 s6 l7 z8 s9 l10 l11 l12 l13 l14 z15=some (r1,r2,r3,r4,r5,r6,r7,r8,r9,r10,r11,r12,r13,r14)→
    Trip Try.prog inv 135 [.d (.agg [.int .u8 z1,.str s2,.str s3,.list false 1 l4,.int .u8 z5,.str s6,.list true 3 l7,.int .i64 z8,.str s9,.list false 1 l10,.list true 8 l11,.list true 15 l12,.list true 15 l13,.list true 3 l14,.int .i64 z15]),.c (.ptr (.ext 0) 0),.c (.ptr (.ext 1) 0),.c (.ptr (.ext 2) 0),.c (.ptr (.ext 4) 0),.c (.ptr (.ext 5) 0),.c (.ptr (.ext 3) 0)] [.cells [.fn 127 [.ext 0]],.cells [.fn 129 []],.cells [.fn 131 [.ext 1,.ext 2,.ext 3]],.cells [.fn 91 []],.cells [.fn 135 [.ext 0,.ext 1,.ext 2,.ext 4,.ext 5,.ext 3]],.cells [.fn 133 [.ext 4]]] (.v (.agg [.d (.int .u8 r1),.d (.str r2),.d (.str r3),.ow (.loc 0),.d (.int .u8 r4),.d (.str r5),.ow (.loc 1),.d (.int .i64 r6),.d (.str r7),.ow (.loc 2),.ow (.loc 3),.ow (.loc 4),.ow (.loc 5),.ow (.loc 6),.d (.int .i64 0)])) [.cells [.fn 127 [.ext 0]],.cells [.fn 129 []],.cells [.fn 131 [.ext 1,.ext 2,.ext 3]],.cells [.fn 91 []],.cells [.fn 135 [.ext 0,.ext 1,.ext 2,.ext 4,.ext 5,.ext 3]],.cells [.fn 133 [.ext 4]]] [.tree .row false 1 r8 none,.tree .row true 3 r9 none,.tree .row false 1 r10 none,.tree .row true 8 r11 none,.tree .row true 15 r12 none,.tree .row true 15 r13 none,.tree .row true 3 r14 none])∧
    (∀⦃l1:List D⦄ ⦃r1:List D⦄,F134x1 n l1=some r1→
    Trip Try.prog inv 134 [.d (.list true 15 l1),.c (.fn 135 [.ext 0,.ext 1,.ext 2,.ext 4,.ext 5,.ext 3])] [.cells [.fn 127 [.ext 0]],.cells [.fn 129 []],.cells [.fn 131 [.ext 1,.ext 2,.ext 3]],.cells [.fn 91 []],.cells [.fn 135 [.ext 0,.ext 1,.ext 2,.ext 4,.ext 5,.ext 3]],.cells [.fn 133 [.ext 4]]] (.v (.c (.ow (.loc 0)))) [.cells [.fn 127 [.ext 0]],.cells [.fn 129 []],.cells [.fn 131 [.ext 1,.ext 2,.ext 3]],.cells [.fn 91 []],.cells [.fn 135 [.ext 0,.ext 1,.ext 2,.ext 4,.ext 5,.ext 3]],.cells [.fn 133 [.ext 4]]] [.tree .row true 15 r1 none]):=by
 induction n using Nat.strongRecOn with | _ n ih=>
 obtain _ | n:=n
 ·refine⟨?_,?_,?_,?_⟩
  ·intro s1 s2 l3 r1 r2 r3 h
   cases (show (none:Option _)=some _ from h)
  ·intro l1 r1 h
   cases (show (none:Option _)=some _ from h)
  ·intro z1 s2 s3 l4 z5 s6 l7 z8 s9 l10 l11 l12 l13 l14 z15 r1 r2 r3 r4 r5 r6 r7 r8 r9 r10 r11 r12 r13 r14 h
   cases (show (none:Option _)=some _ from h)
  intro l1 r1 h
  cases (show (none:Option _)=some _ from h)
 refine⟨?_,?_,?_,?_⟩
 ·intro s1 s2 l3 r1 r2 r3 h
  rw[F133x1]at h
  refine Trip.of tab_ok tab_one fol Try.func133 rfl (by kernel_rfl) rfl rfl rfl (fun M hM hI=>?_)
  try cbv
  refine seq_go ?_
  try cbv
  refine seq_go ?_
  try cbv
  replace h:=bO1_inv h
  obtain⟨l4,hr,h⟩:=h
  refine call_go rfl rfl ?_
  try cbv
  refine call_with hM hI [.ext 1,.ext 2,.ext 3,.ext 4,.ext 0,.ext 5] ((ih _ (by omega)).2.2.2 hr) rfl (by simp) ⟨rfl,⟨rfl,⟨rfl,⟨rfl,⟨rfl,⟨rfl,trivial⟩⟩⟩⟩⟩⟩ ⟨trivial,⟨trivial,⟨trivial,⟨trivial,⟨trivial,⟨trivial,trivial⟩⟩⟩⟩⟩⟩ (by simp) ?_
  clear hr
  try cbv
  refine seq_go ?_
  try cbv
  obtain⟨rfl,rfl,rfl⟩:=inj3 h
  refine fin_go ?_
  try cbv
  exact⟨[.loc 160],rfl,rfl,⟨rfl,⟨rfl,⟨rfl,⟨rfl,⟨rfl,⟨rfl,trivial⟩⟩⟩⟩⟩⟩,⟨rfl,trivial⟩,trivial⟩
 ·intro l1 r1 h
  rw[F136x1]at h
  refine Trip.of tab_ok tab_one fol Try.func136 rfl (by kernel_rfl) rfl rfl rfl (fun M hM hI=>?_)
  try cbv
  refine seq_go ?_
  try cbv
  refine seq_go ?_
  try cbv
  refine seq_go ?_
  try cbv
  refine seq_go ?_
  try cbv
  replace h:=lenF_inv M h
  obtain⟨z2,hz,h⟩:=h
  refine⟨z2,hz,?_⟩
  clear hz
  try cbv
  refine loop_invG (T:=Nat×Int×List D) [.treeS 5 true 3] [] [1,4,5,8,9,10] [.ext 0,.ext 1,.ext 2,.ext 3,.ext 4,.ext 5,.loc 160] 192 (fun t=>⟨[(1,.v (.c (.fn 133 [.ext 0]))),(4,.v (.c (.nils true 3))),(5,.v (.c (.ow (.loc 160)))),(8,.v (.d (.list true 3 l1))),(9,.v (.d (.int .i64 z2))),(10,.v (.d (.int .i64 t.2.1)))],[(.ext 0,.cells [.fn 135 [.ext 1,.ext 2,.ext 3,.ext 0,.ext 5,.ext 4]]),(.ext 1,.cells [.fn 127 [.ext 1]]),(.ext 2,.cells [.fn 129 []]),(.ext 3,.cells [.fn 131 [.ext 2,.ext 3,.ext 4]]),(.ext 4,.cells [.fn 91 []]),(.ext 5,.cells [.fn 133 [.ext 0]]),(.loc 160,.tree .row true 3 t.2.2 none)],192⟩)
    (fun t=>t.1≤n∧L136x1_1 t.1 l1 z2 t.2.1 t.2.2=some r1) (fun t=>t.1) (n,((0:Int),([]:List D))) ⟨Nat.le_refl _,h⟩ (by cbv) ?_
  clear h
  rintro⟨m1,z3,l4⟩ ⟨hm1,h⟩
  replace hm1:m1≤n:=hm1
  obtain _ | m1:=m1
  ·replace h:L136x1_1 0 l1 z2 z3 l4=some r1:=h
   rw[L136x1_1]at h
   cases h
  replace h:L136x1_1 (m1+1) l1 z2 z3 l4=some r1:=h
  rw[L136x1_1]at h
  try cbv
  refine seq_join (T:=Nat×Bool) (fun t=>⟨[(1,.v (.c (.fn 133 [.ext 0]))),(4,.v (.c (.nils true 3))),(5,.v (.c (.ow (.loc 160)))),(8,.v (.d (.list true 3 l1))),(9,.v (.d (.int .i64 z2))),(10,.v (.d (.int .i64 z3))),(11,.v (.d (.bool t.2)))],[(.ext 0,.cells [.fn 135 [.ext 1,.ext 2,.ext 3,.ext 0,.ext 5,.ext 4]]),(.ext 1,.cells [.fn 127 [.ext 1]]),(.ext 2,.cells [.fn 129 []]),(.ext 3,.cells [.fn 131 [.ext 2,.ext 3,.ext 4]]),(.ext 4,.cells [.fn 91 []]),(.ext 5,.cells [.fn 133 [.ext 0]]),(.loc 160,.tree .row true 3 l4 none)],224⟩) (fun t=>t.1≤m1∧L136x1_2 t.1 l1 z2 z3 l4 t.2=some r1) ?_ ?_
  ·try cbv
   refine splitL (fun e=>?_) (fun e=>?_)
   ·replace h:=ite_t e h
    clear e
    try cbv
    exact join_next (m1,true) [1,4,5,8,9,10,11] [.ext 0,.ext 1,.ext 2,.ext 3,.ext 4,.ext 5,.loc 160] 224 ⟨by omega,h⟩ (by cbv)
   replace h:=ite_f (Int.not_lt.2 e) h
   clear e
   try cbv
   exact join_next (m1,false) [1,4,5,8,9,10,11] [.ext 0,.ext 1,.ext 2,.ext 3,.ext 4,.ext 5,.loc 160] 224 ⟨by omega,h⟩ (by cbv)
  clear h
  rintro⟨m2,b5⟩ ⟨hm2,h⟩
  replace hm2:m2≤m1:=hm2
  obtain _ | m2:=m2
  ·replace h:L136x1_2 0 l1 z2 z3 l4 b5=some r1:=h
   rw[L136x1_2]at h
   cases h
  replace h:L136x1_2 (m2+1) l1 z2 z3 l4 b5=some r1:=h
  rw[L136x1_2]at h
  try cbv
  refine seq_go ?_
  try cbv
  cases b5
  ·replace h:=ite_f Bool.false_ne_true h
   try cbv
   refine seq_go ?_
   try cbv
   obtain rfl:=Option.some.inj h
   refine fin_go ?_
   try cbv
   exact⟨[.loc 160],rfl,rfl,⟨rfl,⟨rfl,⟨rfl,⟨rfl,⟨rfl,⟨rfl,trivial⟩⟩⟩⟩⟩⟩,⟨rfl,trivial⟩,trivial⟩
  replace h:=ite_t rfl h
  try cbv
  refine seq_go ?_
  try cbv
  refine seq_go ?_
  try cbv
  replace h:=getF_inv h
  obtain⟨x6,⟨hx0,hx⟩,h⟩:=h
  refine⟨x6,hx0,hx,?_⟩
  clear hx0 hx
  replace h:=ds_t154_inv h
  obtain⟨s7,s8,l9,rfl,h⟩:=h
  try cbv
  replace h:=bO3_inv h
  obtain⟨s10,s11,l12,hr,h⟩:=h
  refine call_go rfl rfl ?_
  try cbv
  refine call_with hM hI [.ext 0,.ext 1,.ext 2,.ext 3,.ext 4,.ext 5] ((ih _ (by omega)).1 hr) rfl (by simp) ⟨rfl,⟨rfl,⟨rfl,⟨rfl,⟨rfl,⟨rfl,trivial⟩⟩⟩⟩⟩⟩ ⟨trivial,⟨trivial,⟨trivial,⟨trivial,⟨trivial,⟨trivial,trivial⟩⟩⟩⟩⟩⟩ (by simp) ?_
  clear hr
  try cbv
  refine⟨false,?_⟩
  try cbv
  refine⟨false,?_⟩
  try cbv
  refine op_pl ?_
  try cbv
  refine⟨true,?_⟩
  try cbv
  refine⟨true,?_⟩
  try cbv
  refine⟨[],?_⟩
  try cbv
  replace h:=appF_inv h
  obtain⟨l13,hb,hz,h⟩:=h
  refine⟨[.agg [.str s10,.str s11,.list true 15 l12]],rfl,?_⟩
  try cbv
  refine⟨(M.lock_iff _).2 hb,l13,hz,?_⟩
  clear hb hz
  try cbv
  replace h:=letF_inv h
  obtain⟨z14,hz,h⟩:=h
  refine⟨z14,hz,?_⟩
  clear hz
  try cbv
  refine loop_nextG (m2,(z14,l13)) [] [(512,160)] [1,4,5,8,9,10] [.ext 0,.ext 1,.ext 2,.ext 3,.ext 4,.ext 5,.loc 512] 192 ⟨by omega,h⟩ (Nat.lt_succ_of_le (by omega)) ?_
  try cbv
 ·intro z1 s2 s3 l4 z5 s6 l7 z8 s9 l10 l11 l12 l13 l14 z15 r1 r2 r3 r4 r5 r6 r7 r8 r9 r10 r11 r12 r13 r14 h
  rw[F135x1]at h
  refine Trip.of tab_ok tab_one fol Try.func135 rfl (by kernel_rfl) rfl rfl rfl (fun M hM hI=>?_)
  try cbv
  refine seq_go ?_
  try cbv
  refine seq_go ?_
  try cbv
  replace h:=bO1_inv h
  obtain⟨l16,hr,h⟩:=h
  first | refine .inr (.inl ⟨[],?_⟩) | refine .inl ⟨[],?_⟩
  try cbv
  refine call_with hM hI [] (T130 _ hr) rfl (by simp) trivial trivial (by simp) ?_
  clear hr
  try cbv
  replace h:=bO3_inv h
  obtain⟨z17,s18,l19,hr,h⟩:=h
  first | refine .inr (.inr ⟨[.ext 0],?_⟩) | refine .inr ⟨[.ext 0],?_⟩
  try cbv
  refine call_with hM hI [.ext 0] (T127 _ hr) rfl (by simp) ⟨rfl,trivial⟩ ⟨trivial,trivial⟩ (by simp) ?_
  try cbv
  first | refine⟨(rfl:(_:Option AObj)=_),?_⟩ | skip
  try cbv
  clear hr
  try cbv
  replace h:=bO2_inv h
  obtain⟨s20,l21,hr,h⟩:=h
  first | refine .inr (.inl ⟨[],?_⟩) | refine .inl ⟨[],?_⟩
  try cbv
  refine call_with hM hI [] (T129 _ hr) rfl (by simp) trivial trivial (by simp) ?_
  clear hr
  try cbv
  replace h:=bO1_inv h
  obtain⟨l22,hr,h⟩:=h
  first | refine .inr (.inr ⟨[.ext 1,.ext 2,.ext 3],?_⟩) | refine .inr ⟨[.ext 1,.ext 2,.ext 3],?_⟩
  try cbv
  refine call_with hM hI [.ext 1,.ext 2,.ext 3] (T132x1 _ hr) rfl (by simp) ⟨rfl,⟨rfl,⟨rfl,trivial⟩⟩⟩ ⟨trivial,⟨trivial,⟨trivial,trivial⟩⟩⟩ (by simp) ?_
  try cbv
  first | refine⟨(rfl:(_:Option AObj)=_),?_⟩ | skip
  first | refine⟨(rfl:(_:Option AObj)=_),?_⟩ | skip
  first | refine⟨(rfl:(_:Option AObj)=_),?_⟩ | skip
  try cbv
  clear hr
  try cbv
  refine drawn ?_ ?_
  ·show _=true
   kernel_rfl
  try cbv
  refine seq_go ?_
  try cbv
  replace h:=bO1_inv h
  obtain⟨l23,hr,h⟩:=h
  first | refine .inr (.inr ⟨[.ext 0,.ext 1,.ext 2,.ext 3,.ext 4,.ext 5],?_⟩) | refine .inr ⟨[.ext 0,.ext 1,.ext 2,.ext 3,.ext 4,.ext 5],?_⟩
  try cbv
  refine call_with hM hI [.ext 0,.ext 1,.ext 2,.ext 3,.ext 4,.ext 5] ((ih _ (by omega)).2.2.2 hr) rfl (by simp) ⟨rfl,⟨rfl,⟨rfl,⟨rfl,⟨rfl,⟨rfl,trivial⟩⟩⟩⟩⟩⟩ ⟨trivial,⟨trivial,⟨trivial,⟨trivial,⟨trivial,⟨trivial,trivial⟩⟩⟩⟩⟩⟩ (by simp) ?_
  try cbv
  first | refine⟨(rfl:(_:Option AObj)=_),?_⟩ | skip
  first | refine⟨(rfl:(_:Option AObj)=_),?_⟩ | skip
  first | refine⟨(rfl:(_:Option AObj)=_),?_⟩ | skip
  first | refine⟨(rfl:(_:Option AObj)=_),?_⟩ | skip
  first | refine⟨(rfl:(_:Option AObj)=_),?_⟩ | skip
  first | refine⟨(rfl:(_:Option AObj)=_),?_⟩ | skip
  try cbv
  clear hr
  try cbv
  replace h:=bO1_inv h
  obtain⟨l24,hr,h⟩:=h
  first | refine .inr (.inr ⟨[.ext 0,.ext 1,.ext 2,.ext 3,.ext 4,.ext 5],?_⟩) | refine .inr ⟨[.ext 0,.ext 1,.ext 2,.ext 3,.ext 4,.ext 5],?_⟩
  try cbv
  refine call_with hM hI [.ext 0,.ext 1,.ext 2,.ext 3,.ext 4,.ext 5] ((ih _ (by omega)).2.2.2 hr) rfl (by simp) ⟨rfl,⟨rfl,⟨rfl,⟨rfl,⟨rfl,⟨rfl,trivial⟩⟩⟩⟩⟩⟩ ⟨trivial,⟨trivial,⟨trivial,⟨trivial,⟨trivial,⟨trivial,trivial⟩⟩⟩⟩⟩⟩ (by simp) ?_
  try cbv
  first | refine⟨(rfl:(_:Option AObj)=_),?_⟩ | skip
  first | refine⟨(rfl:(_:Option AObj)=_),?_⟩ | skip
  first | refine⟨(rfl:(_:Option AObj)=_),?_⟩ | skip
  first | refine⟨(rfl:(_:Option AObj)=_),?_⟩ | skip
  first | refine⟨(rfl:(_:Option AObj)=_),?_⟩ | skip
  first | refine⟨(rfl:(_:Option AObj)=_),?_⟩ | skip
  try cbv
  clear hr
  try cbv
  replace h:=bO1_inv h
  obtain⟨l25,hr,h⟩:=h
  first | refine .inr (.inr ⟨[.ext 4,.ext 0,.ext 1,.ext 2,.ext 3,.ext 5],?_⟩) | refine .inr ⟨[.ext 4,.ext 0,.ext 1,.ext 2,.ext 3,.ext 5],?_⟩
  try cbv
  refine call_with hM hI [.ext 4,.ext 0,.ext 1,.ext 2,.ext 3,.ext 5] ((ih _ (by omega)).2.1 hr) rfl (by simp) ⟨rfl,⟨rfl,⟨rfl,⟨rfl,⟨rfl,⟨rfl,trivial⟩⟩⟩⟩⟩⟩ ⟨trivial,⟨trivial,⟨trivial,⟨trivial,⟨trivial,⟨trivial,trivial⟩⟩⟩⟩⟩⟩ (by simp) ?_
  try cbv
  first | refine⟨(rfl:(_:Option AObj)=_),?_⟩ | skip
  first | refine⟨(rfl:(_:Option AObj)=_),?_⟩ | skip
  first | refine⟨(rfl:(_:Option AObj)=_),?_⟩ | skip
  first | refine⟨(rfl:(_:Option AObj)=_),?_⟩ | skip
  first | refine⟨(rfl:(_:Option AObj)=_),?_⟩ | skip
  first | refine⟨(rfl:(_:Option AObj)=_),?_⟩ | skip
  try cbv
  clear hr
  try cbv
  replace h:=bO0_inv h
  obtain⟨hr,h⟩:=h
  first | refine .inr (.inl ⟨[],?_⟩) | refine .inl ⟨[],?_⟩
  try cbv
  refine call_pure hM hI (T91 _ hr) rfl ?_
  clear hr
  try cbv
  refine drawn ?_ ?_
  ·show _=true
   kernel_rfl
  try cbv
  refine seq_go ?_
  try cbv
  obtain⟨rfl,rfl,rfl,rfl,rfl,rfl,rfl,rfl,rfl,rfl,rfl,rfl,rfl,rfl⟩:=inj14 h
  refine fin_go ?_
  try cbv
  exact⟨[.loc 128,.loc 256,.loc 384,.loc 512,.loc 896,.loc 1024,.loc 1152],rfl,rfl,⟨rfl,⟨rfl,⟨rfl,⟨rfl,⟨rfl,⟨rfl,trivial⟩⟩⟩⟩⟩⟩,⟨rfl,⟨rfl,⟨rfl,⟨rfl,⟨rfl,⟨rfl,⟨rfl,trivial⟩⟩⟩⟩⟩⟩⟩,trivial⟩
 intro l1 r1 h
 rw[F134x1]at h
 refine Trip.of tab_ok tab_one fol Try.func134 rfl (by kernel_rfl) rfl rfl rfl (fun M hM hI=>?_)
 try cbv
 refine seq_go ?_
 try cbv
 refine seq_go ?_
 try cbv
 refine seq_go ?_
 try cbv
 refine seq_go ?_
 try cbv
 replace h:=lenF_inv M h
 obtain⟨z2,hz,h⟩:=h
 refine⟨z2,hz,?_⟩
 clear hz
 try cbv
 refine loop_invG (T:=Nat×Int×List D) [.treeS 5 true 15] [] [1,4,5,8,9,10] [.ext 0,.ext 1,.ext 2,.ext 3,.ext 4,.ext 5,.loc 160] 192 (fun t=>⟨[(1,.v (.c (.fn 135 [.ext 0,.ext 1,.ext 2,.ext 4,.ext 5,.ext 3]))),(4,.v (.c (.nils true 15))),(5,.v (.c (.ow (.loc 160)))),(8,.v (.d (.list true 15 l1))),(9,.v (.d (.int .i64 z2))),(10,.v (.d (.int .i64 t.2.1)))],[(.ext 0,.cells [.fn 127 [.ext 0]]),(.ext 1,.cells [.fn 129 []]),(.ext 2,.cells [.fn 131 [.ext 1,.ext 2,.ext 3]]),(.ext 3,.cells [.fn 91 []]),(.ext 4,.cells [.fn 135 [.ext 0,.ext 1,.ext 2,.ext 4,.ext 5,.ext 3]]),(.ext 5,.cells [.fn 133 [.ext 4]]),(.loc 160,.tree .row true 15 t.2.2 none)],192⟩)
   (fun t=>t.1≤n∧L134x1_1 t.1 l1 z2 t.2.1 t.2.2=some r1) (fun t=>t.1) (n,((0:Int),([]:List D))) ⟨Nat.le_refl _,h⟩ (by cbv) ?_
 clear h
 rintro⟨m1,z3,l4⟩ ⟨hm1,h⟩
 replace hm1:m1≤n:=hm1
 obtain _ | m1:=m1
 ·replace h:L134x1_1 0 l1 z2 z3 l4=some r1:=h
  rw[L134x1_1]at h
  cases h
 replace h:L134x1_1 (m1+1) l1 z2 z3 l4=some r1:=h
 rw[L134x1_1]at h
 try cbv
 refine seq_join (T:=Nat×Bool) (fun t=>⟨[(1,.v (.c (.fn 135 [.ext 0,.ext 1,.ext 2,.ext 4,.ext 5,.ext 3]))),(4,.v (.c (.nils true 15))),(5,.v (.c (.ow (.loc 160)))),(8,.v (.d (.list true 15 l1))),(9,.v (.d (.int .i64 z2))),(10,.v (.d (.int .i64 z3))),(11,.v (.d (.bool t.2)))],[(.ext 0,.cells [.fn 127 [.ext 0]]),(.ext 1,.cells [.fn 129 []]),(.ext 2,.cells [.fn 131 [.ext 1,.ext 2,.ext 3]]),(.ext 3,.cells [.fn 91 []]),(.ext 4,.cells [.fn 135 [.ext 0,.ext 1,.ext 2,.ext 4,.ext 5,.ext 3]]),(.ext 5,.cells [.fn 133 [.ext 4]]),(.loc 160,.tree .row true 15 l4 none)],224⟩) (fun t=>t.1≤m1∧L134x1_2 t.1 l1 z2 z3 l4 t.2=some r1) ?_ ?_
 ·try cbv
  refine splitL (fun e=>?_) (fun e=>?_)
  ·replace h:=ite_t e h
   clear e
   try cbv
   exact join_next (m1,true) [1,4,5,8,9,10,11] [.ext 0,.ext 1,.ext 2,.ext 3,.ext 4,.ext 5,.loc 160] 224 ⟨by omega,h⟩ (by cbv)
  replace h:=ite_f (Int.not_lt.2 e) h
  clear e
  try cbv
  exact join_next (m1,false) [1,4,5,8,9,10,11] [.ext 0,.ext 1,.ext 2,.ext 3,.ext 4,.ext 5,.loc 160] 224 ⟨by omega,h⟩ (by cbv)
 clear h
 rintro⟨m2,b5⟩ ⟨hm2,h⟩
 replace hm2:m2≤m1:=hm2
 obtain _ | m2:=m2
 ·replace h:L134x1_2 0 l1 z2 z3 l4 b5=some r1:=h
  rw[L134x1_2]at h
  cases h
 replace h:L134x1_2 (m2+1) l1 z2 z3 l4 b5=some r1:=h
 rw[L134x1_2]at h
 try cbv
 refine seq_go ?_
 try cbv
 cases b5
 ·replace h:=ite_f Bool.false_ne_true h
  try cbv
  refine seq_go ?_
  try cbv
  obtain rfl:=Option.some.inj h
  refine fin_go ?_
  try cbv
  exact⟨[.loc 160],rfl,rfl,⟨rfl,⟨rfl,⟨rfl,⟨rfl,⟨rfl,⟨rfl,trivial⟩⟩⟩⟩⟩⟩,⟨rfl,trivial⟩,trivial⟩
 replace h:=ite_t rfl h
 try cbv
 refine seq_go ?_
 try cbv
 refine seq_go ?_
 try cbv
 replace h:=getF_inv h
 obtain⟨x6,⟨hx0,hx⟩,h⟩:=h
 refine⟨x6,hx0,hx,?_⟩
 clear hx0 hx
 replace h:=ds_t152_inv h
 obtain⟨z7,s8,s9,l10,z11,s12,l13,z14,s15,l16,l17,l18,l19,l20,z21,rfl,h⟩:=h
 try cbv
 replace h:=bO14_inv h
 obtain⟨z22,s23,s24,z25,s26,z27,s28,l29,l30,l31,l32,l33,l34,l35,hr,h⟩:=h
 refine call_go rfl rfl ?_
 try cbv
 refine call_with hM hI [.ext 0,.ext 1,.ext 2,.ext 3,.ext 4,.ext 5] ((ih _ (by omega)).2.2.1 hr) rfl (by simp) ⟨rfl,⟨rfl,⟨rfl,⟨rfl,⟨rfl,⟨rfl,trivial⟩⟩⟩⟩⟩⟩ ⟨trivial,⟨trivial,⟨trivial,⟨trivial,⟨trivial,⟨trivial,trivial⟩⟩⟩⟩⟩⟩ (by simp) ?_
 clear hr
 try cbv
 refine⟨false,?_⟩
 try cbv
 refine⟨false,?_⟩
 try cbv
 refine op_pl ?_
 try cbv
 refine⟨true,?_⟩
 try cbv
 refine⟨true,?_⟩
 try cbv
 refine⟨[],?_⟩
 try cbv
 replace h:=appF_inv h
 obtain⟨l36,hb,hz,h⟩:=h
 refine⟨[.agg [.int .u8 z22,.str s23,.str s24,.list false 1 l29,.int .u8 z25,.str s26,.list true 3 l30,.int .i64 z27,.str s28,.list false 1 l31,.list true 8 l32,.list true 15 l33,.list true 15 l34,.list true 3 l35,.int .i64 0]],rfl,?_⟩
 try cbv
 refine⟨(M.lock_iff _).2 hb,l36,hz,?_⟩
 clear hb hz
 try cbv
 replace h:=letF_inv h
 obtain⟨z37,hz,h⟩:=h
 refine⟨z37,hz,?_⟩
 clear hz
 try cbv
 refine loop_nextG (m2,(z37,l36)) [] [(512,160)] [1,4,5,8,9,10] [.ext 0,.ext 1,.ext 2,.ext 3,.ext 4,.ext 5,.loc 512] 192 ⟨by omega,h⟩ (Nat.lt_succ_of_le (by omega)) ?_
 try cbv
theorem T134x1 (n:Nat):∀⦃l1:List D⦄ ⦃r1:List D⦄,F134x1 n l1=some r1→
  Trip Try.prog inv 134 [.d (.list true 15 l1),.c (.fn 135 [.ext 0,.ext 1,.ext 2,.ext 4,.ext 5,.ext 3])] [.cells [.fn 127 [.ext 0]],.cells [.fn 129 []],.cells [.fn 131 [.ext 1,.ext 2,.ext 3]],.cells [.fn 91 []],.cells [.fn 135 [.ext 0,.ext 1,.ext 2,.ext 4,.ext 5,.ext 3]],.cells [.fn 133 [.ext 4]]] (.v (.c (.ow (.loc 0)))) [.cells [.fn 127 [.ext 0]],.cells [.fn 129 []],.cells [.fn 131 [.ext 1,.ext 2,.ext 3]],.cells [.fn 91 []],.cells [.fn 135 [.ext 0,.ext 1,.ext 2,.ext 4,.ext 5,.ext 3]],.cells [.fn 133 [.ext 4]]] [.tree .row true 15 r1 none]:=(G133x1 n).2.2.2
def F139x1 (n:Nat) (z1:Int) (s2:ByteArray) (l3:List D) (z4:Int) (s5:ByteArray) (l6:List D) (l7:List D) (z8:Int) (z9:Int) (s10:ByteArray) (s11:ByteArray) (s12:ByteArray) (l13:List D) (l14:List D) (z15:Int) (z16:Int):Option (Int×ByteArray×Int×ByteArray×Int×Int×ByteArray×ByteArray×ByteArray×List D×List D×List D×List D×List D):=
 bO1 (F140 n l3) fun l17=>bO3 (F127 n z4 s5 l6) fun z18 s19 l20=>bO1 (F134x1 n l7) fun l21=>bO7 (F131x1 n z8 z9 s10 s11 s12 l13 l14 z15) fun z22 z23 s24 s25 s26 l27 l28=>bO0 (F91 n z16) (some (z1,s2,z18,s19,z22,z23,s24,s25,s26,l17,l20,l21,l27,l28))
theorem T139x1 (n:Nat):∀⦃z1:Int⦄ ⦃s2:ByteArray⦄ ⦃l3:List D⦄ ⦃z4:Int⦄ ⦃s5:ByteArray⦄ ⦃l6:List D⦄ ⦃l7:List D⦄ ⦃z8:Int⦄ ⦃z9:Int⦄ ⦃s10:ByteArray⦄ ⦃s11:ByteArray⦄ ⦃s12:ByteArray⦄ ⦃l13:List D⦄ ⦃l14:List D⦄ ⦃z15:Int⦄ ⦃z16:Int⦄ ⦃r1:Int⦄ ⦃r2:ByteArray⦄ ⦃r3:Int⦄ ⦃r4:ByteArray⦄ ⦃r5:Int⦄ ⦃r6:Int⦄ ⦃r7:ByteArray⦄ ⦃r8:ByteArray⦄ ⦃r9:ByteArray⦄ ⦃r10:List D⦄ ⦃r11:List D⦄ ⦃r12:List D⦄ ⦃r13:List D⦄ ⦃r14:List D⦄,F139x1 n z1 s2 l3 z4 s5 l6 l7 z8 z9 s10 s11 s12 l13 l14 z15 z16=some (r1,r2,r3,r4,r5,r6,r7,r8,r9,r10,r11,r12,r13,r14)→
    Trip Try.prog inv 139 [.d (.agg [.int .u8 z1,.str s2,.list true 4 l3,.int .u8 z4,.str s5,.list true 3 l6,.list true 15 l7,.int .u8 z8,.int .i64 z9,.str s10,.str s11,.str s12,.list false 1 l13,.list true 8 l14,.int .i64 z15,.int .i64 z16]),.c (.ptr (.ext 0) 0),.c (.ptr (.ext 1) 0),.c (.ptr (.ext 2) 0),.c (.ptr (.ext 4) 0),.c (.ptr (.ext 5) 0)] [.cells [.fn 137 [.ext 1]],.cells [.fn 127 [.ext 1]],.cells [.fn 135 [.ext 1,.ext 3,.ext 4,.ext 2,.ext 6,.ext 5]],.cells [.fn 129 []],.cells [.fn 131 [.ext 3,.ext 4,.ext 5]],.cells [.fn 91 []],.cells [.fn 133 [.ext 2]]] (.v (.agg [.d (.int .u8 r1),.d (.str r2),.ow (.loc 0),.d (.int .u8 r3),.d (.str r4),.ow (.loc 1),.ow (.loc 2),.d (.int .u8 r5),.d (.int .i64 r6),.d (.str r7),.d (.str r8),.d (.str r9),.ow (.loc 3),.ow (.loc 4),.d (.int .i64 0),.d (.int .i64 0)])) [.cells [.fn 137 [.ext 1]],.cells [.fn 127 [.ext 1]],.cells [.fn 135 [.ext 1,.ext 3,.ext 4,.ext 2,.ext 6,.ext 5]],.cells [.fn 129 []],.cells [.fn 131 [.ext 3,.ext 4,.ext 5]],.cells [.fn 91 []],.cells [.fn 133 [.ext 2]]] [.tree .row true 4 r10 none,.tree .row true 3 r11 none,.tree .row true 15 r12 none,.tree .row false 1 r13 none,.tree .row true 8 r14 none]:=by
 intro z1 s2 l3 z4 s5 l6 l7 z8 z9 s10 s11 s12 l13 l14 z15 z16 r1 r2 r3 r4 r5 r6 r7 r8 r9 r10 r11 r12 r13 r14 h
 unfold F139x1 at h
 refine Trip.of tab_ok tab_one fol Try.func139 rfl (by kernel_rfl) rfl rfl rfl (fun M hM hI=>?_)
 try cbv
 refine seq_go ?_
 try cbv
 refine seq_go ?_
 try cbv
 replace h:=bO1_inv h
 obtain⟨l17,hr,h⟩:=h
 first | refine .inr (.inr ⟨[.ext 1],?_⟩) | refine .inr ⟨[.ext 1],?_⟩
 try cbv
 refine call_with hM hI [.ext 1] (T140 _ hr) rfl (by simp) ⟨rfl,trivial⟩ ⟨trivial,trivial⟩ (by simp) ?_
 try cbv
 first | refine⟨(rfl:(_:Option AObj)=_),?_⟩ | skip
 try cbv
 clear hr
 try cbv
 replace h:=bO3_inv h
 obtain⟨z18,s19,l20,hr,h⟩:=h
 first | refine .inr (.inr ⟨[.ext 1],?_⟩) | refine .inr ⟨[.ext 1],?_⟩
 try cbv
 refine call_with hM hI [.ext 1] (T127 _ hr) rfl (by simp) ⟨rfl,trivial⟩ ⟨trivial,trivial⟩ (by simp) ?_
 try cbv
 first | refine⟨(rfl:(_:Option AObj)=_),?_⟩ | skip
 try cbv
 clear hr
 try cbv
 replace h:=bO1_inv h
 obtain⟨l21,hr,h⟩:=h
 first | refine .inr (.inr ⟨[.ext 1,.ext 3,.ext 4,.ext 5,.ext 2,.ext 6],?_⟩) | refine .inr ⟨[.ext 1,.ext 3,.ext 4,.ext 5,.ext 2,.ext 6],?_⟩
 try cbv
 refine call_with hM hI [.ext 1,.ext 3,.ext 4,.ext 5,.ext 2,.ext 6] (T134x1 _ hr) rfl (by simp) ⟨rfl,⟨rfl,⟨rfl,⟨rfl,⟨rfl,⟨rfl,trivial⟩⟩⟩⟩⟩⟩ ⟨trivial,⟨trivial,⟨trivial,⟨trivial,⟨trivial,⟨trivial,trivial⟩⟩⟩⟩⟩⟩ (by simp) ?_
 try cbv
 first | refine⟨(rfl:(_:Option AObj)=_),?_⟩ | skip
 first | refine⟨(rfl:(_:Option AObj)=_),?_⟩ | skip
 first | refine⟨(rfl:(_:Option AObj)=_),?_⟩ | skip
 first | refine⟨(rfl:(_:Option AObj)=_),?_⟩ | skip
 first | refine⟨(rfl:(_:Option AObj)=_),?_⟩ | skip
 first | refine⟨(rfl:(_:Option AObj)=_),?_⟩ | skip
 try cbv
 clear hr
 try cbv
 replace h:=bO7_inv h
 obtain⟨z22,z23,s24,s25,s26,l27,l28,hr,h⟩:=h
 first | refine .inr (.inr ⟨[.ext 3,.ext 4,.ext 5],?_⟩) | refine .inr ⟨[.ext 3,.ext 4,.ext 5],?_⟩
 try cbv
 refine call_with hM hI [.ext 3,.ext 4,.ext 5] (T131x1 _ hr) rfl (by simp) ⟨rfl,⟨rfl,⟨rfl,trivial⟩⟩⟩ ⟨trivial,⟨trivial,⟨trivial,trivial⟩⟩⟩ (by simp) ?_
 try cbv
 first | refine⟨(rfl:(_:Option AObj)=_),?_⟩ | skip
 first | refine⟨(rfl:(_:Option AObj)=_),?_⟩ | skip
 first | refine⟨(rfl:(_:Option AObj)=_),?_⟩ | skip
 try cbv
 clear hr
 try cbv
 replace h:=bO0_inv h
 obtain⟨hr,h⟩:=h
 first | refine .inr (.inl ⟨[],?_⟩) | refine .inl ⟨[],?_⟩
 try cbv
 refine call_pure hM hI (T91 _ hr) rfl ?_
 clear hr
 try cbv
 refine drawn ?_ ?_
 ·show _=true
  kernel_rfl
 try cbv
 refine seq_go ?_
 try cbv
 obtain⟨rfl,rfl,rfl,rfl,rfl,rfl,rfl,rfl,rfl,rfl,rfl,rfl,rfl,rfl⟩:=inj14 h
 refine fin_go ?_
 try cbv
 exact⟨[.loc 160,.loc 288,.loc 416,.loc 544,.loc 545],rfl,rfl,⟨rfl,⟨rfl,⟨rfl,⟨rfl,⟨rfl,⟨rfl,⟨rfl,trivial⟩⟩⟩⟩⟩⟩⟩,⟨rfl,⟨rfl,⟨rfl,⟨rfl,⟨rfl,trivial⟩⟩⟩⟩⟩,trivial⟩
mutual
def L138x1_1:Nat→(List D)→Int→Int→(List D)→Option (List D)
 | 0,_,_,_,_=>none
 | n+1,l1,z2,z3,l4=>
  (if z3<z2 then L138x1_2 n l1 z2 z3 l4 true else L138x1_2 n l1 z2 z3 l4 false)
def L138x1_2:Nat→(List D)→Int→Int→(List D)→Bool→Option (List D)
 | 0,_,_,_,_,_=>none
 | n+1,l1,z2,z3,l4,b5=>
  (if b5=true then getF l1 z3 fun x6=>ds_t126 x6 fun z7 s8 l9 z10 s11 l12 l13 z14 z15 s16 s17 s18 l19 l20 z21 z22=>bO14 (F139x1 n z7 s8 l9 z10 s11 l12 l13 z14 z15 s16 s17 s18 l19 l20 z21 z22) fun z23 s24 z25 s26 z27 z28 s29 s30 s31 l32 l33 l34 l35 l36=>appF 248 l4 ([.agg [.int .u8 z23,.str s24,.list true 4 l32,.int .u8 z25,.str s26,.list true 3 l33,.list true 15 l34,.int .u8 z27,.int .i64 z28,.str s29,.str s30,.str s31,.list false 1 l35,.list true 8 l36,.int .i64 0,.int .i64 0]]) fun l37=>letF (IntKind.wrap .i64 (z3+1)) fun z38=>L138x1_1 n l1 z2 z38 l37 else some l4)
end
def F138x1 (n:Nat) (l1:List D):Option (List D):=
 lenF l1 fun z2=>L138x1_1 n l1 z2 (0:Int) ([]:List D)
theorem T138x1 (n:Nat):∀⦃l1:List D⦄ ⦃r1:List D⦄,F138x1 n l1=some r1→
    Trip Try.prog inv 138 [.d (.list true 16 l1),.c (.fn 139 [.ext 0,.ext 1,.ext 2,.ext 4,.ext 5])] [.cells [.fn 137 [.ext 1]],.cells [.fn 127 [.ext 1]],.cells [.fn 135 [.ext 1,.ext 3,.ext 4,.ext 2,.ext 6,.ext 5]],.cells [.fn 129 []],.cells [.fn 131 [.ext 3,.ext 4,.ext 5]],.cells [.fn 91 []],.cells [.fn 133 [.ext 2]]] (.v (.c (.ow (.loc 0)))) [.cells [.fn 137 [.ext 1]],.cells [.fn 127 [.ext 1]],.cells [.fn 135 [.ext 1,.ext 3,.ext 4,.ext 2,.ext 6,.ext 5]],.cells [.fn 129 []],.cells [.fn 131 [.ext 3,.ext 4,.ext 5]],.cells [.fn 91 []],.cells [.fn 133 [.ext 2]]] [.tree .row true 16 r1 none]:=by
 intro l1 r1 h
 unfold F138x1 at h
 refine Trip.of tab_ok tab_one fol Try.func138 rfl (by kernel_rfl) rfl rfl rfl (fun M hM hI=>?_)
 try cbv
 refine seq_go ?_
 try cbv
 refine seq_go ?_
 try cbv
 refine seq_go ?_
 try cbv
 refine seq_go ?_
 try cbv
 replace h:=lenF_inv M h
 obtain⟨z2,hz,h⟩:=h
 refine⟨z2,hz,?_⟩
 clear hz
 try cbv
 refine loop_invG (T:=Nat×Int×List D) [.treeS 5 true 16] [] [1,4,5,8,9,10] [.ext 0,.ext 1,.ext 2,.ext 3,.ext 4,.ext 5,.ext 6,.loc 160] 192 (fun t=>⟨[(1,.v (.c (.fn 139 [.ext 0,.ext 1,.ext 2,.ext 4,.ext 5]))),(4,.v (.c (.nils true 16))),(5,.v (.c (.ow (.loc 160)))),(8,.v (.d (.list true 16 l1))),(9,.v (.d (.int .i64 z2))),(10,.v (.d (.int .i64 t.2.1)))],[(.ext 0,.cells [.fn 137 [.ext 1]]),(.ext 1,.cells [.fn 127 [.ext 1]]),(.ext 2,.cells [.fn 135 [.ext 1,.ext 3,.ext 4,.ext 2,.ext 6,.ext 5]]),(.ext 3,.cells [.fn 129 []]),(.ext 4,.cells [.fn 131 [.ext 3,.ext 4,.ext 5]]),(.ext 5,.cells [.fn 91 []]),(.ext 6,.cells [.fn 133 [.ext 2]]),(.loc 160,.tree .row true 16 t.2.2 none)],192⟩)
   (fun t=>t.1≤n∧L138x1_1 t.1 l1 z2 t.2.1 t.2.2=some r1) (fun t=>t.1) (n,((0:Int),([]:List D))) ⟨Nat.le_refl _,h⟩ (by cbv) ?_
 clear h
 rintro⟨m1,z3,l4⟩ ⟨hm1,h⟩
 replace hm1:m1≤n:=hm1
 obtain _ | m1:=m1
 ·replace h:L138x1_1 0 l1 z2 z3 l4=some r1:=h
  rw[L138x1_1]at h
  cases h
 replace h:L138x1_1 (m1+1) l1 z2 z3 l4=some r1:=h
 rw[L138x1_1]at h
 try cbv
 refine seq_join (T:=Nat×Bool) (fun t=>⟨[(1,.v (.c (.fn 139 [.ext 0,.ext 1,.ext 2,.ext 4,.ext 5]))),(4,.v (.c (.nils true 16))),(5,.v (.c (.ow (.loc 160)))),(8,.v (.d (.list true 16 l1))),(9,.v (.d (.int .i64 z2))),(10,.v (.d (.int .i64 z3))),(11,.v (.d (.bool t.2)))],[(.ext 0,.cells [.fn 137 [.ext 1]]),(.ext 1,.cells [.fn 127 [.ext 1]]),(.ext 2,.cells [.fn 135 [.ext 1,.ext 3,.ext 4,.ext 2,.ext 6,.ext 5]]),(.ext 3,.cells [.fn 129 []]),(.ext 4,.cells [.fn 131 [.ext 3,.ext 4,.ext 5]]),(.ext 5,.cells [.fn 91 []]),(.ext 6,.cells [.fn 133 [.ext 2]]),(.loc 160,.tree .row true 16 l4 none)],224⟩) (fun t=>t.1≤m1∧L138x1_2 t.1 l1 z2 z3 l4 t.2=some r1) ?_ ?_
 ·try cbv
  refine splitL (fun e=>?_) (fun e=>?_)
  ·replace h:=ite_t e h
   clear e
   try cbv
   exact join_next (m1,true) [1,4,5,8,9,10,11] [.ext 0,.ext 1,.ext 2,.ext 3,.ext 4,.ext 5,.ext 6,.loc 160] 224 ⟨by omega,h⟩ (by cbv)
  replace h:=ite_f (Int.not_lt.2 e) h
  clear e
  try cbv
  exact join_next (m1,false) [1,4,5,8,9,10,11] [.ext 0,.ext 1,.ext 2,.ext 3,.ext 4,.ext 5,.ext 6,.loc 160] 224 ⟨by omega,h⟩ (by cbv)
 clear h
 rintro⟨m2,b5⟩ ⟨hm2,h⟩
 replace hm2:m2≤m1:=hm2
 obtain _ | m2:=m2
 ·replace h:L138x1_2 0 l1 z2 z3 l4 b5=some r1:=h
  rw[L138x1_2]at h
  cases h
 replace h:L138x1_2 (m2+1) l1 z2 z3 l4 b5=some r1:=h
 rw[L138x1_2]at h
 try cbv
 refine seq_go ?_
 try cbv
 cases b5
 ·replace h:=ite_f Bool.false_ne_true h
  try cbv
  refine seq_go ?_
  try cbv
  obtain rfl:=Option.some.inj h
  refine fin_go ?_
  try cbv
  exact⟨[.loc 160],rfl,rfl,⟨rfl,⟨rfl,⟨rfl,⟨rfl,⟨rfl,⟨rfl,⟨rfl,trivial⟩⟩⟩⟩⟩⟩⟩,⟨rfl,trivial⟩,trivial⟩
 replace h:=ite_t rfl h
 try cbv
 refine seq_go ?_
 try cbv
 refine seq_go ?_
 try cbv
 replace h:=getF_inv h
 obtain⟨x6,⟨hx0,hx⟩,h⟩:=h
 refine⟨x6,hx0,hx,?_⟩
 clear hx0 hx
 replace h:=ds_t126_inv h
 obtain⟨z7,s8,l9,z10,s11,l12,l13,z14,z15,s16,s17,s18,l19,l20,z21,z22,rfl,h⟩:=h
 try cbv
 replace h:=bO14_inv h
 obtain⟨z23,s24,z25,s26,z27,z28,s29,s30,s31,l32,l33,l34,l35,l36,hr,h⟩:=h
 refine call_go rfl rfl ?_
 try cbv
 refine call_with hM hI [.ext 0,.ext 1,.ext 2,.ext 3,.ext 4,.ext 5,.ext 6] (T139x1 _ hr) rfl (by simp) ⟨rfl,⟨rfl,⟨rfl,⟨rfl,⟨rfl,⟨rfl,⟨rfl,trivial⟩⟩⟩⟩⟩⟩⟩ ⟨trivial,⟨trivial,⟨trivial,⟨trivial,⟨trivial,⟨trivial,⟨trivial,trivial⟩⟩⟩⟩⟩⟩⟩ (by simp) ?_
 clear hr
 try cbv
 refine⟨false,?_⟩
 try cbv
 refine⟨false,?_⟩
 try cbv
 refine op_pl ?_
 try cbv
 refine⟨true,?_⟩
 try cbv
 refine⟨true,?_⟩
 try cbv
 refine⟨[],?_⟩
 try cbv
 replace h:=appF_inv h
 obtain⟨l37,hb,hz,h⟩:=h
 refine⟨[.agg [.int .u8 z23,.str s24,.list true 4 l32,.int .u8 z25,.str s26,.list true 3 l33,.list true 15 l34,.int .u8 z27,.int .i64 z28,.str s29,.str s30,.str s31,.list false 1 l35,.list true 8 l36,.int .i64 0,.int .i64 0]],rfl,?_⟩
 try cbv
 refine⟨(M.lock_iff _).2 hb,l37,hz,?_⟩
 clear hb hz
 try cbv
 replace h:=letF_inv h
 obtain⟨z38,hz,h⟩:=h
 refine⟨z38,hz,?_⟩
 clear hz
 try cbv
 refine loop_nextG (m2,(z38,l37)) [] [(512,160)] [1,4,5,8,9,10] [.ext 0,.ext 1,.ext 2,.ext 3,.ext 4,.ext 5,.ext 6,.loc 512] 192 ⟨by omega,h⟩ (Nat.lt_succ_of_le (by omega)) ?_
 try cbv
def F89x1 (n:Nat) (l1:List D):Option (List D):=
 bO1 (F138x1 n l1) fun l2=>some l2
theorem T89x1 (n:Nat):∀⦃l1:List D⦄ ⦃r1:List D⦄,F89x1 n l1=some r1→
    Trip Try.prog inv 89 [.d (.agg [.list true 16 l1]),.c (.fn 91 [])] [] (.v (.agg [.ow (.loc 0)])) [] [.tree .row true 16 r1 none]:=by
 intro l1 r1 h
 unfold F89x1 at h
 refine Trip.of tab_ok tab_one fol Try.func89 rfl (by kernel_rfl) rfl rfl rfl (fun M hM hI=>?_)
 try cbv
 refine seq_go ?_
 try cbv
 refine seq_go ?_
 try cbv
 refine seq_go ?_
 try cbv
 refine seq_go ?_
 try cbv
 refine seq_go ?_
 try cbv
 refine seq_go ?_
 try cbv
 refine seq_go ?_
 try cbv
 refine seq_go ?_
 try cbv
 refine seq_go ?_
 try cbv
 refine seq_go ?_
 try cbv
 refine seq_go ?_
 try cbv
 replace h:=bO1_inv h
 obtain⟨l2,hr,h⟩:=h
 refine call_go rfl rfl ?_
 try cbv
 refine call_with hM hI [.loc 576,.loc 96,.loc 160,.loc 256,.loc 128,.loc 32,.loc 416] (T138x1 _ hr) rfl (by simp) ⟨rfl,⟨rfl,⟨rfl,⟨rfl,⟨rfl,⟨rfl,⟨rfl,trivial⟩⟩⟩⟩⟩⟩⟩ ⟨trivial,⟨trivial,⟨trivial,⟨trivial,⟨trivial,⟨trivial,⟨trivial,trivial⟩⟩⟩⟩⟩⟩⟩ (by simp) ?_
 clear hr
 try cbv
 obtain rfl:=Option.some.inj h
 refine fin_go ?_
 try cbv
 exact⟨[.loc 736],rfl,rfl,trivial,⟨rfl,trivial⟩,trivial⟩
def F26 (n:Nat) (l1:List D):Option (List D):=
 bO1 (F89x1 n l1) fun l2=>some l2
theorem T26 (n:Nat):∀⦃l1:List D⦄ ⦃r1:List D⦄,F26 n l1=some r1→
    Trip Try.prog inv 26 [.d (.agg [.list true 16 l1])] [] (.v (.agg [.ow (.loc 0)])) [] [.tree .row true 16 r1 none]:=by
 intro l1 r1 h
 unfold F26 at h
 refine Trip.of tab_ok tab_one fol Try.func26 rfl (by kernel_rfl) rfl rfl rfl (fun M hM hI=>?_)
 try cbv
 refine seq_go ?_
 try cbv
 refine seq_go ?_
 try cbv
 replace h:=bO1_inv h
 obtain⟨l2,hr,h⟩:=h
 refine call_go rfl rfl ?_
 try cbv
 refine call_with hM hI [] (T89x1 _ hr) rfl (by simp) trivial trivial (by simp) ?_
 clear hr
 try cbv
 obtain rfl:=Option.some.inj h
 refine fin_go ?_
 try cbv
 exact⟨[.loc 96],rfl,rfl,trivial,⟨rfl,trivial⟩,trivial⟩
end Go.Proofs.Ytiiojajgajnhpaa
end
set_option linter.unusedVariables false
noncomputable section
namespace Go.Proofs.Ytiiojajgajnhpaa
open Go Go.AM
theorem app_ok {γ:Type}{b:Nat}{L M:List D}{k:List D→Option γ}(h:L.length+M.length≤10000) (hb:b≤1000):appF b L M k=k (L++M):=by
 have hM:10000<maxLen:=by decide
 have h2:(L.length+M.length)*b≤10000*1000:=Nat.mul_le_mul h hb
 unfold appF
 rw[if_pos ⟨by omega,by omega⟩]
theorem scal_str {l:List D}(h:ListS tab 9 l):scalB l=true:=by
 unfold scalB
 rw[List.all_eq_true]
 intro x hx
 obtain⟨s,rfl,_⟩:=rs9 (h.2 x hx)
 rfl
theorem Ev.nilF {l:List D}{A B:Nat→Option (List D)}{r:List D}(hB:Ev B r) (hA:l=[]→Ev A r):Ev (fun n=>nilF l (A n) (B n)) r:=by
 by_cases e:l=[]
 ·obtain⟨N,h1⟩:=hA e
  obtain⟨M,h2⟩:=hB
  refine⟨N+M,fun n hn=>?_⟩
  show AM.nilF l (A n) (B n)=some r
  rw[nilF_eq (fun _=>by rw[h1 n (by omega),h2 n (by omega)])]
  exact h2 n (by omega)
 ·obtain⟨M,h2⟩:=hB
  refine⟨M,fun n hn=>?_⟩
  show AM.nilF l (A n) (B n)=some r
  rw[nilF_eq (fun h=>absurd h e)]
  exact h2 n hn
theorem names_cp {l:List D}(h:ListS tab 9 l) (hl:l.length≤4000):Ev (fun n=>F130 n l) l:=by
 have a:Ev (fun n=>L130_1 n l false) l:=by
  refine .succ ?_
  simp only[L130_1,Bool.false_eq_true,if_false]
  unfold needF
  rw[if_pos (scal_str h)]
  have ha:∀{γ:Type} (k:List D→Option γ),appF 16 ([]:List D) l k=k l:=fun k=>app_ok (by simp only[List.length_nil];omega) (by omega)
  simp only[ha]
  exact .ret
 unfold F130
 refine Ev.nilF a (fun e=>?_)
 subst e
 exact .succ (by simp only[L130_1,if_true];exact .ret)
theorem place_cp {l:List D}(h:ListS tab 9 l) (hl:l.length≤4000) (s:ByteArray):Ev (fun n=>F129 n s l) (s,l):=by
 unfold F129
 exact Ev.bO1 (names_cp h hl) .ret
theorem place_ref {l:List D}(hl:l.length≤4000) (s:ByteArray):Ev (fun n=>F126 n s l) (s,l):=by
 unfold F126
 have ha:∀{γ:Type} (k:List D→Option γ),appF 16 ([]:List D) l k=k l:=fun k=>app_ok (by simp only[List.length_nil];omega) (by omega)
 simp only[ha]
 exact .ret
theorem take1 {l:List D}{i:Nat}{x:D}(h:l[i]?=some x):l.take (i+1)=l.take i++[x]:=by rw[List.take_add_one,h];rfl
theorem ty_cp (l:List D):ListS tab 27 l→SmT l→Ev (fun n=>F128 n l) l∧∀z s,Ev (fun n=>F86 n z s l) (z,s,l):=by
 refine list_ind (P:=fun l=>ListS tab 27 l→SmT l→Ev (fun n=>F128 n l) l∧∀z s,Ev (fun n=>F86 n z s l) (z,s,l)) (fun l ih h hs=>?_) l
 have hl:=hs.len
 constructor
 ·have loop:∀i:Nat,i≤l.length→Ev (fun n=>L128_1 n l (l.length:Int) (i:Int) (l.take i)) l:=by
   refine down l.length ?_ ?_
   ·refine .succ ?_
    simp only[L128_1,Int.lt_irrefl,if_false]
    refine .succ ?_
    simp only[L128_2,Bool.false_eq_true,if_false,List.take_length]
    exact .ret
   ·intro i hi ihl
    obtain⟨x,hx,hm,hr⟩:=h.get hi
    obtain⟨a,s,m,rfl,w0,w1,w2⟩:=rs27 hr
    have hc:=(ih m (size_row (ag:=true) (sz:=3) hm (by simp)) w2 (hs.row hm)).1
    refine .succ ?_
    simp only[L128_1,if_pos (ilt hi)]
    refine .succ ?_
    simp only[L128_2,if_true,getF_nat hx,ds_t27]
    refine Ev.bO3 (a1:=a) (a2:=s) (a3:=m) (.succ (by simp only[F127];exact Ev.bO1 hc .ret)) ?_
    have ha:∀{γ:Type} (k:List D→Option γ),appF 48 (l.take i) [.agg [.int .u8 a,.str s,.list true 3 m]] k=k (l.take i++[.agg [.int .u8 a,.str s,.list true 3 m]]):=fun k=>app_ok (by simp only[List.length_take,List.length_cons,List.length_nil];omega) (by omega)
    simp only[ha,letF,wrap_succ hi h.1]
    rw[take1 hx]at ihl
    exact ihl
  exact .succ (by simp only[F128,lenF];exact loop 0 (Nat.zero_le _))
 ·intro z s0
  have loop:∀i:Nat,i≤l.length→Ev (fun n=>L86_1 n z s0 l (i:Int) (l.take i)) (z,s0,l):=by
   refine down l.length ?_ ?_
   ·refine .succ ?_
    simp only[L86_1,lenF,Int.lt_irrefl,if_false]
    refine .succ ?_
    simp only[L86_2,Bool.false_eq_true,if_false,List.take_length]
    exact .ret
   ·intro i hi ihl
    obtain⟨x,hx,hm,hr⟩:=h.get hi
    obtain⟨a,s,m,rfl,w0,w1,w2⟩:=rs27 hr
    have hc:=(ih m (size_row (ag:=true) (sz:=3) hm (by simp)) w2 (hs.row hm)).2 a s
    refine .succ ?_
    simp only[L86_1,lenF,if_pos (ilt hi)]
    refine .succ ?_
    simp only[L86_2,if_true,getF_nat hx,ds_t27]
    refine Ev.bO3 hc ?_
    have ha:∀{γ:Type} (k:List D→Option γ),appF 48 (l.take i) [.agg [.int .u8 a,.str s,.list true 3 m]] k=k (l.take i++[.agg [.int .u8 a,.str s,.list true 3 m]]):=fun k=>app_ok (by simp only[List.length_take,List.length_cons,List.length_nil];omega) (by omega)
    simp only[ha,letF,wrap_succ hi h.1]
    rw[take1 hx]at ihl
    exact ihl
  exact .succ (by simp only[F86];exact loop 0 (Nat.zero_le _))
theorem rows_of {Q:D→D→Prop}:∀l:List D,(∀x∈l,∃y,Q x y)→∃r:List D,r.length=l.length∧∀(j:Nat) (x:D),l[j]?=some x→∃y,r[j]?=some y∧Q x y
 | [],_=>⟨[],rfl,fun j x h=>by simp at h⟩
 | x::l,h=>by
  obtain⟨y,hy⟩:=h x (by simp)
  obtain⟨r,h1,h2⟩:=rows_of l fun x hx=>h x (by simp[hx])
  refine⟨y::r,by simp[h1],fun j z hz=>?_⟩
  cases j with
  | zero=>simp at hz;subst hz;exact⟨y,rfl,hy⟩
  | succ j=>exact h2 j z (by simpa using hz)
theorem rows_typed {e:Nat}{Q:D→D→Prop}{l r:List D}(h:ListS tab e l) (h1:r.length=l.length) (h2:∀(j:Nat) (x:D),l[j]?=some x→∃y,r[j]?=some y∧Q x y) (hq:∀x y,x∈l→Q x y→RowS tab e y):ListS tab e r:=by
 refine⟨by rw[h1];exact h.1,fun y hy=>?_⟩
 obtain⟨j,hj⟩:=List.getElem?_of_mem hy
 have hlt:j<l.length:=by rw[←h1];exact (List.getElem?_eq_some_iff.1 hj).1
 obtain⟨y',e1,e2⟩:=h2 j l[j] (List.getElem?_eq_getElem hlt)
 rw[hj]at e1
 cases e1
 exact hq _ _ (List.getElem_mem hlt) e2
theorem rows_same {Q:D→D→Prop}{l r:List D}(h1:r.length=l.length) (h2:∀(j:Nat) (x:D),l[j]?=some x→∃y,r[j]?=some y∧Q x y) (hq:∀x y,x∈l→Q x y→y=x):r=l:=by
 refine List.ext_getElem? fun j=>?_
 cases hx:l[j]? with
 | none=>rw[List.getElem?_eq_none_iff]at hx ⊢;omega
 | some x=>
  obtain⟨y,e1,e2⟩:=h2 j x hx
  rw[e1,hq x y (List.mem_of_getElem? hx) e2]
def at_ (b:Bool) (z:Int):Int:=if b=true then z else 0
def QE (b:Bool) (x y:D):Prop:=∃(a0 a1:Int) (a2 a3 a4:ByteArray) (a5 a6:List D) (a7:Int) (m:List D),x= .agg [.int .u8 a0,.int .i64 a1,.str a2,.str a3,.str a4,.list false 1 a5,.list true 8 a6,.int .i64 a7]∧y= .agg [.int .u8 a0,.int .i64 a1,.str a2,.str a3,.str a4,.list false 1 a5,.list true 8 m,.int .i64 (at_ b a7)]∧RowS tab 33 y∧(b=true→m=a6)∧
 (b=true→Ev (fun n=>F131 n a0 a1 a2 a3 a4 a5 a6 a7) (a0,a1,a2,a3,a4,a7,a5,m))∧(b=false→Ev (fun n=>F131x1 n a0 a1 a2 a3 a4 a5 a6 a7) (a0,a1,a2,a3,a4,a5,m))∧
 Ev (fun n=>F88 n a0 a1 a2 a3 a4 a5 a6 a7 b) (a0,a1,a2,a3,a4,a5,m,at_ b a7)
theorem ex_rows (b:Bool) (l:List D):ListS tab 33 l→SmE l→∀x∈l,∃y,QE b x y:=by
 refine list_ind (P:=fun l=>ListS tab 33 l→SmE l→∀x∈l,∃y,QE b x y) (fun l ih h hs=>?_) l
 intro x hm
 obtain⟨a0,a1,a2,a3,a4,a5,a6,a7,rfl,w0,w1,w2,w3,w4,w5,w6,w7⟩:=rs33 (h.2 x hm)
 obtain⟨l5,s6⟩:=hs.row hm
 have hl:=s6.len
 obtain⟨r,r1,r2⟩:=rows_of a6 (ih a6 (size_row (ag:=true) (sz:=8) hm (by simp)) w6 s6)
 have rt:ListS tab 33 r:=rows_typed w6 r1 r2 fun x y _ ⟨_,_,_,_,_,_,_,_,_,_,_,h,_⟩=>h
 refine⟨_,a0,a1,a2,a3,a4,a5,a6,a7,r,rfl,rfl,mk33 w0 w1 w2 w3 w4 w5 rt (by unfold at_;split;exact w7;rfl),fun hb=>?_,fun hb=>?_,fun hb=>?_,?_⟩
 ·subst hb
  exact rows_same r1 r2 fun x y _ ⟨_,_,_,_,_,_,_,_,m,h1,h2,_,h3,_⟩=>by rw[h1,h2,h3 rfl];rfl
 ·subst hb
  refine .succ ?_
  simp only[F131]
  refine Ev.bO2 (place_cp w5 l5 a4) ?_
  have loop:∀i:Nat,i≤a6.length→Ev (fun n=>L132_1 n a6 (a6.length:Int) (i:Int) (r.take i)) r:=by
   refine down a6.length ?_ ?_
   ·refine .succ ?_
    simp only[L132_1,Int.lt_irrefl,if_false]
    refine .succ ?_
    simp only[L132_2,Bool.false_eq_true,if_false]
    rw[←r1,List.take_length]
    exact .ret
   ·intro i hi ihl
    obtain⟨x,hx,hm2,_⟩:=w6.get hi
    obtain⟨y,hy,b0,b1,b2,b3,b4,b5,b6,b7,m,rfl,rfl,_,_,q,_⟩:=r2 i x hx
    refine .succ ?_
    simp only[L132_1,if_pos (ilt hi)]
    refine .succ ?_
    simp only[L132_2,if_true,getF_nat hx,ds_t33]
    refine Ev.bO8 (q rfl) ?_
    have ha:∀{γ:Type} (v:D) (k:List D→Option γ),appF 120 (r.take i) [v] k=k (r.take i++[v]):=fun v k=>app_ok (by simp only[List.length_take,List.length_cons,List.length_nil];omega) (by omega)
    simp only[ha,letF,wrap_succ hi w6.1]
    rw[take1 hy]at ihl
    exact ihl
  refine Ev.bO1 (.succ (by simp only[F132,lenF];exact loop 0 (Nat.zero_le _))) ?_
  exact Ev.bO1 (A:=fun n=>F90 n a7) (.of fun n=>rfl) .ret
 ·subst hb
  refine .succ ?_
  simp only[F131x1]
  refine Ev.bO2 (place_cp w5 l5 a4) ?_
  have loop:∀i:Nat,i≤a6.length→Ev (fun n=>L132x1_1 n a6 (a6.length:Int) (i:Int) (r.take i)) r:=by
   refine down a6.length ?_ ?_
   ·refine .succ ?_
    simp only[L132x1_1,Int.lt_irrefl,if_false]
    refine .succ ?_
    simp only[L132x1_2,Bool.false_eq_true,if_false]
    rw[←r1,List.take_length]
    exact .ret
   ·intro i hi ihl
    obtain⟨x,hx,hm2,_⟩:=w6.get hi
    obtain⟨y,hy,b0,b1,b2,b3,b4,b5,b6,b7,m,rfl,rfl,_,_,_,q,_⟩:=r2 i x hx
    refine .succ ?_
    simp only[L132x1_1,if_pos (ilt hi)]
    refine .succ ?_
    simp only[L132x1_2,if_true,getF_nat hx,ds_t33]
    refine Ev.bO7 (q rfl) ?_
    have ha:∀{γ:Type} (v:D) (k:List D→Option γ),appF 120 (r.take i) [v] k=k (r.take i++[v]):=fun v k=>app_ok (by simp only[List.length_take,List.length_cons,List.length_nil];omega) (by omega)
    simp only[ha,letF,wrap_succ hi w6.1]
    rw[take1 hy]at ihl
    exact ihl
  refine Ev.bO1 (.succ (by simp only[F132x1,lenF];exact loop 0 (Nat.zero_le _))) ?_
  exact Ev.bO0 (A:=fun n=>F91 n a7) (.of fun n=>rfl) .ret
 ·refine .succ ?_
  simp only[F88]
  refine Ev.bO2 (place_ref l5 a4) ?_
  have loop:∀i:Nat,i≤a6.length→Ev (fun n=>L88_1 n a0 a1 a2 a3 a6 a7 b a4 a5 (i:Int) (r.take i)) (a0,a1,a2,a3,a4,a5,r,at_ b a7):=by
   refine down a6.length ?_ ?_
   ·refine .succ ?_
    simp only[L88_1,lenF,Int.lt_irrefl,if_false]
    refine .succ ?_
    simp only[L88_2,Bool.false_eq_true,if_false,letB]
    rw[←r1,List.take_length]
    cases b with
    | true=>
     simp only[Bool.not_true,Bool.false_eq_true,if_false]
     exact .succ (by simp only[L88_3];exact .ret)
    | false=>
     simp only[Bool.not_false,if_true]
     exact .succ (by simp only[L88_3];exact .ret)
   ·intro i hi ihl
    obtain⟨x,hx,hm2,_⟩:=w6.get hi
    obtain⟨y,hy,b0,b1,b2,b3,b4,b5,b6,b7,m,rfl,rfl,_,_,_,_,q⟩:=r2 i x hx
    refine .succ ?_
    simp only[L88_1,lenF,if_pos (ilt hi)]
    refine .succ ?_
    simp only[L88_2,if_true,getF_nat hx,ds_t33]
    refine Ev.bO8 q ?_
    have ha:∀{γ:Type} (v:D) (k:List D→Option γ),appF 120 (r.take i) [v] k=k (r.take i++[v]):=fun v k=>app_ok (by simp only[List.length_take,List.length_cons,List.length_nil];omega) (by omega)
    simp only[ha,letF,wrap_succ hi w6.1]
    rw[take1 hy]at ihl
    exact ihl
  exact loop 0 (Nat.zero_le _)
end Go.Proofs.Ytiiojajgajnhpaa
end
set_option linter.unusedVariables false
noncomputable section
namespace Go.Proofs.Ytiiojajgajnhpaa
open Go Go.AM
def PS (b:Bool) (l r:List D):Prop:=r.length=l.length∧ListS tab 152 r∧(b=true→r=l)∧(b=true→Ev (fun n=>F134 n l) r)∧(b=false→Ev (fun n=>F134x1 n l) r)∧Ev (fun n=>F87 n l b) r
def QA (b:Bool) (x y:D):Prop:=∃(t1 t2:ByteArray) (m m':List D),x= .agg [.str t1,.str t2,.list true 15 m]∧y= .agg [.str t1,.str t2,.list true 15 m']∧RowS tab 154 y∧(b=true→m'=m)∧(b=true→Ev (fun n=>F134 n m) m')∧(b=false→Ev (fun n=>F134x1 n m) m')∧Ev (fun n=>F87 n m b) m'
def QS (b:Bool) (x y:D):Prop:=∃(a0:Int) (a1 a2:ByteArray) (a3:List D) (a4:Int) (a5:ByteArray) (a6:List D) (a7:Int) (a8:ByteArray) (a9 a10 a11 a12 a13:List D) (a14:Int) (e u v k:List D),x= .agg [.int .u8 a0,.str a1,.str a2,.list false 1 a3,.int .u8 a4,.str a5,.list true 3 a6,.int .i64 a7,.str a8,.list false 1 a9,.list true 8 a10,.list true 15 a11,.list true 15 a12,.list true 3 a13,.int .i64 a14]∧y= .agg [.int .u8 a0,.str a1,.str a2,.list false 1 a3,.int .u8 a4,.str a5,.list true 3 a6,.int .i64 a7,.str a8,.list false 1 a9,.list true 8 e,.list true 15 u,.list true 15 v,.list true 3 k,.int .i64 (at_ b a14)]∧RowS tab 152 y∧(b=true→y=x)∧
 (b=true→Ev (fun n=>F135 n a0 a1 a2 a3 a4 a5 a6 a7 a8 a9 a10 a11 a12 a13 a14) (a0,a1,a2,a4,a5,a7,a8,a14,a3,a6,a9,e,u,v,k))∧(b=false→Ev (fun n=>F135x1 n a0 a1 a2 a3 a4 a5 a6 a7 a8 a9 a10 a11 a12 a13 a14) (a0,a1,a2,a4,a5,a7,a8,a3,a6,a9,e,u,v,k))∧
 Sh a3 a6 a9 a10 a11 a12 a13∧ListS tab 27 a6∧ListS tab 33 a10∧ListS tab 154 a13∧e.length=a10.length∧(∀(j:Nat) (x:D),a10[j]?=some x→∃y,e[j]?=some y∧QE b x y)∧Ev (fun n=>F87 n a11 b) u∧Ev (fun n=>F87 n a12 b) v∧k.length=a13.length∧(∀(j:Nat) (x:D),a13[j]?=some x→∃y,k[j]?=some y∧QA b x y)
theorem st_row (b:Bool) {l:List D}(h:ListS tab 152 l) (hs:SmS l) (ih:∀m,SizeOf.sizeOf m<SizeOf.sizeOf l→ListS tab 152 m→SmS m→∃r,PS b m r):∀x∈l,∃y,QS b x y:=by
 intro x hm
 obtain⟨a0,a1,a2,a3,a4,a5,a6,a7,a8,a9,a10,a11,a12,a13,a14,rfl,w0,w1,w2,w3,w4,w5,w6,w7,w8,w9,w10,w11,w12,w13,w14⟩:=rs152 (h.2 x hm)
 have sh:=hs.sh hm
 obtain⟨g1,g2,g3,g4,g5,g6,g7,g8⟩:=id sh
 have gl:=g4.len
 obtain⟨e,e1,e2⟩:=rows_of a10 (ex_rows b a10 w10 g4)
 have et:ListS tab 33 e:=rows_typed w10 e1 e2 fun x y _ ⟨_,_,_,_,_,_,_,_,_,_,_,h,_⟩=>h
 obtain⟨u,u1,u2,u3,u4,u5,u6⟩:=ih a11 (size_row (ag:=true) (sz:=15) hm (by simp)) w11 g5
 obtain⟨v,v1,v2,v3,v4,v5,v6⟩:=ih a12 (size_row (ag:=true) (sz:=15) hm (by simp)) w12 g6
 obtain⟨k,k1,k2⟩:=rows_of (Q:=QA b) a13 (fun x hm2=>by
  obtain⟨t1,t2,m,rfl,z0,z1,z2⟩:=rs154 (w13.2 x hm2)
  obtain⟨m',m1,m2,m3,m4,m5,m6⟩:=ih m (Nat.lt_trans (size_row (ag:=true) (sz:=15) hm2 (by simp)) (size_row (ag:=true) (sz:=3) hm (by simp))) z2 (g8 t1 t2 m hm2)
  exact⟨_,t1,t2,m,m',rfl,rfl,mk154 z0 z1 m2,m3,m4,m5,m6⟩)
 have kt:ListS tab 154 k:=rows_typed w13 k1 k2 fun x y _ ⟨_,_,_,_,_,_,h,_⟩=>h
 have hy:RowS tab 152 (.agg [.int .u8 a0,.str a1,.str a2,.list false 1 a3,.int .u8 a4,.str a5,.list true 3 a6,.int .i64 a7,.str a8,.list false 1 a9,.list true 8 e,.list true 15 u,.list true 15 v,.list true 3 k,.int .i64 (at_ b a14)]):=mk152 w0 w1 w2 w3 w4 w5 w6 w7 w8 w9 et u2 v2 kt (by unfold at_;split;exact w14;rfl)
 have ht:=(ty_cp a6 w6 g2).1
 have h127:Ev (fun n=>F127 n a4 a5 a6) (a4,a5,a6):=.succ (by simp only[F127];exact Ev.bO1 ht .ret)
 refine⟨_,a0,a1,a2,a3,a4,a5,a6,a7,a8,a9,a10,a11,a12,a13,a14,e,u,v,k,rfl,rfl,hy,fun hb=>?_,fun hb=>?_,fun hb=>?_,sh,w6,w10,w13,e1,e2,u6,v6,k1,k2⟩
 ·subst hb
  have hee:e=a10:=rows_same e1 e2 fun x y _ ⟨_,_,_,_,_,_,_,_,m,h1,h2,_,h3,_⟩=>by rw[h1,h2,h3 rfl];rfl
  have hkk:k=a13:=rows_same k1 k2 fun x y _ ⟨_,_,_,_,h1,h2,_,h3,_⟩=>by rw[h1,h2,h3 rfl]
  rw[hee,u3 rfl,v3 rfl,hkk];rfl
 ·subst hb
  have he:Ev (fun n=>F132 n a10) e:=by
   have loop:∀i:Nat,i≤a10.length→Ev (fun n=>L132_1 n a10 (a10.length:Int) (i:Int) (e.take i)) e:=by
    refine down a10.length ?_ ?_
    ·refine .succ ?_
     simp only[L132_1,Int.lt_irrefl,if_false]
     refine .succ ?_
     simp only[L132_2,Bool.false_eq_true,if_false]
     rw[←e1,List.take_length]
     exact .ret
    ·intro i hi ihl
     obtain⟨x,hx,hm2,_⟩:=w10.get hi
     obtain⟨y,hy,b0,b1,b2,b3,b4,b5,b6,b7,m,rfl,rfl,_,_,q,_,_⟩:=e2 i x hx
     refine .succ ?_
     simp only[L132_1,if_pos (ilt hi)]
     refine .succ ?_
     simp only[L132_2,if_true,getF_nat hx,ds_t33]
     refine Ev.bO8 (q rfl) ?_
     have ha:∀{γ:Type} (v0:D) (kk:List D→Option γ),appF 120 (e.take i) [v0] kk=kk (e.take i++[v0]):=fun v0 kk=>app_ok (by simp only[List.length_take,List.length_cons,List.length_nil];omega) (by omega)
     simp only[ha,letF,wrap_succ hi w10.1]
     rw[take1 hy]at ihl
     exact ihl
   exact .succ (by simp only[F132,lenF];exact loop 0 (Nat.zero_le _))
  have hk:Ev (fun n=>F136 n a13) k:=by
   have loop:∀i:Nat,i≤a13.length→Ev (fun n=>L136_1 n a13 (a13.length:Int) (i:Int) (k.take i)) k:=by
    refine down a13.length ?_ ?_
    ·refine .succ ?_
     simp only[L136_1,Int.lt_irrefl,if_false]
     refine .succ ?_
     simp only[L136_2,Bool.false_eq_true,if_false]
     rw[←k1,List.take_length]
     exact .ret
    ·intro i hi ihl
     obtain⟨x,hx,hm2,_⟩:=w13.get hi
     obtain⟨y,hy,t1,t2,m,m',rfl,rfl,_,_,q,_⟩:=k2 i x hx
     refine .succ ?_
     simp only[L136_1,if_pos (ilt hi)]
     refine .succ ?_
     simp only[L136_2,if_true,getF_nat hx,ds_t154]
     refine Ev.bO3 (a1:=t1) (a2:=t2) (a3:=m') (.succ (by simp only[F133];exact Ev.bO1 (q rfl) .ret)) ?_
     have ha:∀{γ:Type} (v0:D) (kk:List D→Option γ),appF 56 (k.take i) [v0] kk=kk (k.take i++[v0]):=fun v0 kk=>app_ok (by simp only[List.length_take,List.length_cons,List.length_nil];omega) (by omega)
     simp only[ha,letF,wrap_succ hi w13.1]
     rw[take1 hy]at ihl
     exact ihl
   exact .succ (by simp only[F136,lenF];exact loop 0 (Nat.zero_le _))
  refine .succ ?_
  simp only[F135]
  exact Ev.bO1 (names_cp w3 g1) (Ev.bO3 h127 (Ev.bO2 (place_cp w9 g3 a8) (Ev.bO1 he (Ev.bO1 (u4 rfl) (Ev.bO1 (v4 rfl) (Ev.bO1 hk (Ev.bO1 (A:=fun n=>F90 n a14) (.of fun n=>rfl) .ret)))))))
 ·subst hb
  have hex1:Ev (fun n=>F132x1 n a10) e:=by
   have loop:∀i:Nat,i≤a10.length→Ev (fun n=>L132x1_1 n a10 (a10.length:Int) (i:Int) (e.take i)) e:=by
    refine down a10.length ?_ ?_
    ·refine .succ ?_
     simp only[L132x1_1,Int.lt_irrefl,if_false]
     refine .succ ?_
     simp only[L132x1_2,Bool.false_eq_true,if_false]
     rw[←e1,List.take_length]
     exact .ret
    ·intro i hi ihl
     obtain⟨x,hx,hm2,_⟩:=w10.get hi
     obtain⟨y,hy,b0,b1,b2,b3,b4,b5,b6,b7,m,rfl,rfl,_,_,_,q,_⟩:=e2 i x hx
     refine .succ ?_
     simp only[L132x1_1,if_pos (ilt hi)]
     refine .succ ?_
     simp only[L132x1_2,if_true,getF_nat hx,ds_t33]
     refine Ev.bO7 (q rfl) ?_
     have ha:∀{γ:Type} (v0:D) (kk:List D→Option γ),appF 120 (e.take i) [v0] kk=kk (e.take i++[v0]):=fun v0 kk=>app_ok (by simp only[List.length_take,List.length_cons,List.length_nil];omega) (by omega)
     simp only[ha,letF,wrap_succ hi w10.1]
     rw[take1 hy]at ihl
     exact ihl
   exact .succ (by simp only[F132x1,lenF];exact loop 0 (Nat.zero_le _))
  have hkx1:Ev (fun n=>F136x1 n a13) k:=by
   have loop:∀i:Nat,i≤a13.length→Ev (fun n=>L136x1_1 n a13 (a13.length:Int) (i:Int) (k.take i)) k:=by
    refine down a13.length ?_ ?_
    ·refine .succ ?_
     simp only[L136x1_1,Int.lt_irrefl,if_false]
     refine .succ ?_
     simp only[L136x1_2,Bool.false_eq_true,if_false]
     rw[←k1,List.take_length]
     exact .ret
    ·intro i hi ihl
     obtain⟨x,hx,hm2,_⟩:=w13.get hi
     obtain⟨y,hy,t1,t2,m,m',rfl,rfl,_,_,_,q,_⟩:=k2 i x hx
     refine .succ ?_
     simp only[L136x1_1,if_pos (ilt hi)]
     refine .succ ?_
     simp only[L136x1_2,if_true,getF_nat hx,ds_t154]
     refine Ev.bO3 (a1:=t1) (a2:=t2) (a3:=m') (.succ (by simp only[F133x1];exact Ev.bO1 (q rfl) .ret)) ?_
     have ha:∀{γ:Type} (v0:D) (kk:List D→Option γ),appF 56 (k.take i) [v0] kk=kk (k.take i++[v0]):=fun v0 kk=>app_ok (by simp only[List.length_take,List.length_cons,List.length_nil];omega) (by omega)
     simp only[ha,letF,wrap_succ hi w13.1]
     rw[take1 hy]at ihl
     exact ihl
   exact .succ (by simp only[F136x1,lenF];exact loop 0 (Nat.zero_le _))
  refine .succ ?_
  simp only[F135x1]
  exact Ev.bO1 (names_cp w3 g1) (Ev.bO3 h127 (Ev.bO2 (place_cp w9 g3 a8) (Ev.bO1 hex1 (Ev.bO1 (u5 rfl) (Ev.bO1 (v5 rfl) (Ev.bO1 hkx1 (Ev.bO0 (A:=fun n=>F91 n a14) (.of fun n=>rfl) .ret)))))))
theorem st_cp (b:Bool) (l:List D):ListS tab 152 l→SmS l→∃r,PS b l r:=by
 refine list_ind (P:=fun l=>ListS tab 152 l→SmS l→∃r,PS b l r) (fun l ih h hs=>?_) l
 have hl:=hs.len
 obtain⟨r,r1,r2⟩:=rows_of l (st_row b h hs ih)
 have rt:ListS tab 152 r:=rows_typed h r1 r2 fun x y _ ⟨_,_,_,_,_,_,_,_,_,_,_,_,_,_,_,_,_,_,_,_,_,h,_⟩=>h
 refine⟨r,r1,rt,fun hb=>rows_same r1 r2 fun x y _ ⟨_,_,_,_,_,_,_,_,_,_,_,_,_,_,_,_,_,_,_,_,_,_,h,_⟩=>h hb,fun hb=>?_,fun hb=>?_,?_⟩
 ·subst hb
  have loop:∀i:Nat,i≤l.length→Ev (fun n=>L134_1 n l (l.length:Int) (i:Int) (r.take i)) r:=by
   refine down l.length ?_ ?_
   ·refine .succ ?_
    simp only[L134_1,Int.lt_irrefl,if_false]
    refine .succ ?_
    simp only[L134_2,Bool.false_eq_true,if_false]
    rw[←r1,List.take_length]
    exact .ret
   ·intro i hi ihl
    obtain⟨x,hx,hm2,_⟩:=h.get hi
    obtain⟨y,hy,a0,a1,a2,a3,a4,a5,a6,a7,a8,a9,a10,a11,a12,a13,a14,e,u,v,k,rfl,rfl,_,_,q,_⟩:=r2 i x hx
    refine .succ ?_
    simp only[L134_1,if_pos (ilt hi)]
    refine .succ ?_
    simp only[L134_2,if_true,getF_nat hx,ds_t152]
    refine Ev.bO15 (q rfl) ?_
    have ha:∀{γ:Type} (v0:D) (kk:List D→Option γ),appF 264 (r.take i) [v0] kk=kk (r.take i++[v0]):=fun v0 kk=>app_ok (by simp only[List.length_take,List.length_cons,List.length_nil];omega) (by omega)
    simp only[ha,letF,wrap_succ hi h.1]
    rw[take1 hy]at ihl
    exact ihl
  exact .succ (by simp only[F134,lenF];exact loop 0 (Nat.zero_le _))
 ·subst hb
  have loop:∀i:Nat,i≤l.length→Ev (fun n=>L134x1_1 n l (l.length:Int) (i:Int) (r.take i)) r:=by
   refine down l.length ?_ ?_
   ·refine .succ ?_
    simp only[L134x1_1,Int.lt_irrefl,if_false]
    refine .succ ?_
    simp only[L134x1_2,Bool.false_eq_true,if_false]
    rw[←r1,List.take_length]
    exact .ret
   ·intro i hi ihl
    obtain⟨x,hx,hm2,_⟩:=h.get hi
    obtain⟨y,hy,a0,a1,a2,a3,a4,a5,a6,a7,a8,a9,a10,a11,a12,a13,a14,e,u,v,k,rfl,rfl,_,_,_,q,_⟩:=r2 i x hx
    refine .succ ?_
    simp only[L134x1_1,if_pos (ilt hi)]
    refine .succ ?_
    simp only[L134x1_2,if_true,getF_nat hx,ds_t152]
    refine Ev.bO14 (q rfl) ?_
    have ha:∀{γ:Type} (v0:D) (kk:List D→Option γ),appF 264 (r.take i) [v0] kk=kk (r.take i++[v0]):=fun v0 kk=>app_ok (by simp only[List.length_take,List.length_cons,List.length_nil];omega) (by omega)
    simp only[ha,letF,wrap_succ hi h.1]
    rw[take1 hy]at ihl
    exact ihl
  exact .succ (by simp only[F134x1,lenF];exact loop 0 (Nat.zero_le _))
 ·have loop:∀i:Nat,i≤l.length→Ev (fun n=>L87_1 n l b (r.take i) (i:Int)) r:=by
   refine down l.length ?_ ?_
   ·refine .succ ?_
    simp only[L87_1,lenF,Int.lt_irrefl,if_false]
    refine .succ ?_
    simp only[L87_2,Bool.false_eq_true,if_false]
    rw[←r1,List.take_length]
    exact .ret
   ·intro i hi ihl
    obtain⟨x,hx,hm2,_⟩:=h.get hi
    obtain⟨y,hy,a0,a1,a2,a3,a4,a5,a6,a7,a8,a9,a10,a11,a12,a13,a14,e,u,v,k,rfl,rfl,_,_,_,_,sh,w6,w10,w13,e1,e2,u6,v6,k1,k2⟩:=r2 i x hx
    obtain⟨g1,g2,g3,g4,g5,g6,g7,g8⟩:=id sh
    have gl:=g4.len
    rw[take1 hy]at ihl
    have last:Ev (fun n=>L87_7 n l b (r.take i) (i:Int) a0 a1 a2 a7 a3 a4 a5 a6 a8 a9 e u v k (at_ b a14)) r:=by
     refine .succ ?_
     have ha:∀{γ:Type} (v0:D) (kk:List D→Option γ),appF 264 (r.take i) [v0] kk=kk (r.take i++[v0]):=fun v0 kk=>app_ok (by simp only[List.length_take,List.length_cons,List.length_nil];omega) (by omega)
     simp only[L87_7,ha,letF,wrap_succ hi h.1]
     exact ihl
    have arms:∀j:Nat,j≤a13.length→Ev (fun n=>L87_5 n l b (r.take i) (i:Int) a0 a1 a2 a7 a14 a3 a4 a5 a6 a8 a9 e u v (j:Int) (k.take j)) r:=by
     refine down a13.length ?_ ?_
     ·refine .succ ?_
      simp only[L87_5,getF_nat hx,ds_t152,lenF,Int.lt_irrefl,if_false]
      refine .succ ?_
      simp only[L87_6,Bool.false_eq_true,if_false,letB]
      rw[←k1,List.take_length]
      cases b with
      | true=>simp only[Bool.not_true,Bool.false_eq_true,if_false];exact last
      | false=>simp only[Bool.not_false,if_true];exact last
     ·intro j hj ihj
      obtain⟨x,hx2,_,_⟩:=w13.get hj
      obtain⟨y,hy2,t1,t2,m,m',rfl,rfl,_,_,_,_,q⟩:=k2 j x hx2
      refine .succ ?_
      simp only[L87_5,getF_nat hx,ds_t152,lenF,if_pos (ilt hj)]
      refine .succ ?_
      simp only[L87_6,if_true,getF_nat hx,ds_t152,getF_nat hx2,ds_t154]
      refine Ev.bO1 q ?_
      have ha:∀{γ:Type} (v0:D) (kk:List D→Option γ),appF 56 (k.take j) [v0] kk=kk (k.take j++[v0]):=fun v0 kk=>app_ok (by simp only[List.length_take,List.length_cons,List.length_nil];omega) (by omega)
      simp only[ha,letF,wrap_succ hj w13.1]
      rw[take1 hy2]at ihj
      exact ihj
    have exs:∀j:Nat,j≤a10.length→Ev (fun n=>L87_3 n l b (r.take i) (i:Int) a0 a1 a2 a7 a14 a3 a4 a5 a6 a8 a9 (j:Int) (e.take j)) r:=by
     refine down a10.length ?_ ?_
     ·refine .succ ?_
      simp only[L87_3,getF_nat hx,ds_t152,lenF,Int.lt_irrefl,if_false]
      refine .succ ?_
      simp only[L87_4,Bool.false_eq_true,if_false,getF_nat hx,ds_t152]
      refine Ev.bO1 u6 ?_
      refine Ev.bO1 v6 ?_
      rw[←e1,List.take_length]
      exact arms 0 (Nat.zero_le _)
     ·intro j hj ihj
      obtain⟨x,hx2,_,_⟩:=w10.get hj
      obtain⟨y,hy2,b0,b1,b2,b3,b4,b5,b6,b7,m,rfl,rfl,_,_,_,_,q⟩:=e2 j x hx2
      refine .succ ?_
      simp only[L87_3,getF_nat hx,ds_t152,lenF,if_pos (ilt hj)]
      refine .succ ?_
      simp only[L87_4,if_true,getF_nat hx,ds_t152,getF_nat hx2,ds_t33]
      refine Ev.bO8 q ?_
      have ha:∀{γ:Type} (v0:D) (kk:List D→Option γ),appF 120 (e.take j) [v0] kk=kk (e.take j++[v0]):=fun v0 kk=>app_ok (by simp only[List.length_take,List.length_cons,List.length_nil];omega) (by omega)
      simp only[ha,letF,wrap_succ hj w10.1]
      rw[take1 hy2]at ihj
      exact ihj
    refine .succ ?_
    simp only[L87_1,lenF,if_pos (ilt hi)]
    refine .succ ?_
    have hn:∀{γ:Type} (k:List D→Option γ),appF 16 ([]:List D) a3 k=k a3:=fun k=>app_ok (by simp only[List.length_nil];omega) (by omega)
    simp only[L87_2,if_true,getF_nat hx,ds_t152,hn]
    refine Ev.bO3 ((ty_cp a6 w6 g2).2 a4 a5) ?_
    refine Ev.bO2 (place_ref g3 a8) ?_
    exact exs 0 (Nat.zero_le _)
  exact .succ (by simp only[F87];exact loop 0 (Nat.zero_le _))
end Go.Proofs.Ytiiojajgajnhpaa
end
