/- HeapPlays of chapter 20 holds. No condition. (Part 6: YtiiojajgajnhpaaX63, HpC, YtiiojajgajnhpaaX62, YtiiojajgajnhpaaX60, YtiiojajgajnhpaaX61, YtiiojajgajnhpaaX13, HpD, HpRp.) -/
import Derived.Test.YtiiojajgajnhpaaRows
import Derived.ChangeSame
import Derived.JoinedOf
import Derived.JoinedAt
import Derived.RowKit
import Derived.RowKit2
import Derived.ReadAgain
import Derived.ChangeAlike
import Derived.Test.YtiiojajgajnhpaaHplE
set_option linter.unusedVariables false
set_option linter.unusedSimpArgs false
set_option maxRecDepth 100000
set_option maxHeartbeats 40000000
set_option linter.unusedVariables false
noncomputable section
namespace Go.Proofs.Ytiiojajgajnhpaa
open Go Go.AM
mutual
def L63_1:Nat→(List D)→Int→Int→Option (Int×List D)
 | 0,_,_,_=>none
 | n+1,l1,z2,z3=>
  lenF l1 fun z4=>(if z3<z4 then L63_2 n l1 z2 z3 true else L63_2 n l1 z2 z3 false)
def L63_2:Nat→(List D)→Int→Int→Bool→Option (Int×List D)
 | 0,_,_,_,_=>none
 | n+1,l1,z2,z3,b5=>
  (if b5=true then needF (0≤z3∧z3.toNat<l1.length) (getN l1 (z3.toNat) fun x6=>ds_t183 x6 fun z7 z8 s9 l10 z11 l12 b13=>letB (!b13) fun b14=>(if b14=true then letF (IntKind.wrap .i64 (z2+1)) fun z15=>L63_3 n l1 z3 z15 else L63_3 n l1 z3 z2))else some (z2,l1))
def L63_3:Nat→(List D)→Int→Int→Option (Int×List D)
 | 0,_,_,_=>none
 | n+1,l1,z3,z16=>
  letF (IntKind.wrap .i64 (z3+1)) fun z17=>L63_1 n l1 z16 z17
end
def F63 (n:Nat) (l1:List D):Option (Int×List D):=
 L63_1 n l1 (0:Int) (0:Int)
theorem T63 (n:Nat):∀⦃l1:List D⦄ ⦃r1:Int⦄ ⦃r2:List D⦄,F63 n l1=some (r1,r2)→
    Trip Try.prog inv 63 [.c (.ptr (.ext 0) 0)] [.cells [.ow (.ext 1)],.tree .flat true 7 l1 none] (.v (.d (.int .i64 r1))) [.cells [.ow (.ext 1)],.tree .flat true 7 r2 none] []:=by
 intro l1 r1 r2 h
 unfold F63 at h
 refine Trip.of tab_ok tab_one fol Try.func63 rfl (by kernel_rfl) rfl rfl rfl (fun M hM hI=>?_)
 try cbv
 refine seq_go ?_
 try cbv
 refine seq_go ?_
 try cbv
 refine seq_go ?_
 try cbv
 refine seq_go ?_
 try cbv
 refine loop_invG (T:=Nat×Int×Int) [] [] [0,2,3,4] [.ext 0,.ext 1] 96 (fun t=>⟨[(0,.v (.c (.ptr (.ext 0) 0))),(2,.v (.d (.int .i64 0))),(3,.v (.d (.int .i64 t.2.1))),(4,.v (.d (.int .i64 t.2.2)))],[(.ext 0,.cells [.ow (.ext 1)]),(.ext 1,.tree .flat true 7 l1 none)],96⟩)
   (fun t=>t.1≤n∧L63_1 t.1 l1 t.2.1 t.2.2=some (r1,r2)) (fun t=>t.1) (n,((0:Int),(0:Int))) ⟨Nat.le_refl _,h⟩ (by cbv) ?_
 clear h
 rintro⟨m1,z2,z3⟩ ⟨hm1,h⟩
 replace hm1:m1≤n:=hm1
 obtain _ | m1:=m1
 ·replace h:L63_1 0 l1 z2 z3=some (r1,r2):=h
  rw[L63_1]at h
  cases h
 replace h:L63_1 (m1+1) l1 z2 z3=some (r1,r2):=h
 rw[L63_1]at h
 try cbv
 refine seq_go ?_
 try cbv
 refine seq_join (T:=Nat×Bool) (fun t=>⟨[(0,.v (.c (.ptr (.ext 0) 0))),(2,.v (.d (.int .i64 0))),(3,.v (.d (.int .i64 z2))),(4,.v (.d (.int .i64 z3))),(11,.v (.d (.bool t.2)))],[(.ext 0,.cells [.ow (.ext 1)]),(.ext 1,.tree .flat true 7 l1 none)],320⟩) (fun t=>t.1≤m1∧L63_2 t.1 l1 z2 z3 t.2=some (r1,r2)) ?_ ?_
 ·try cbv
  replace h:=lenF_inv M h
  obtain⟨z4,hz,h⟩:=h
  refine⟨z4,hz,?_⟩
  clear hz
  try cbv
  refine splitL (fun e=>?_) (fun e=>?_)
  ·replace h:=ite_t e h
   clear e
   try cbv
   exact join_next (m1,true) [0,2,3,4,11] [.ext 0,.ext 1] 320 ⟨by omega,h⟩ (by cbv)
  replace h:=ite_f (Int.not_lt.2 e) h
  clear e
  try cbv
  exact join_next (m1,false) [0,2,3,4,11] [.ext 0,.ext 1] 320 ⟨by omega,h⟩ (by cbv)
 clear h
 rintro⟨m2,b5⟩ ⟨hm2,h⟩
 replace hm2:m2≤m1:=hm2
 obtain _ | m2:=m2
 ·replace h:L63_2 0 l1 z2 z3 b5=some (r1,r2):=h
  rw[L63_2]at h
  cases h
 replace h:L63_2 (m2+1) l1 z2 z3 b5=some (r1,r2):=h
 rw[L63_2]at h
 try cbv
 cases b5
 ·replace h:=ite_f Bool.false_ne_true h
  try cbv
  refine seq_go ?_
  try cbv
  obtain⟨rfl,rfl⟩:=inj2 h
  refine fin_go ?_
  try cbv
  exact⟨[],rfl,rfl,⟨rfl,⟨rfl,trivial⟩⟩,trivial,trivial⟩
 replace h:=ite_t rfl h
 try cbv
 refine seq_join (T:=Nat×Int) (fun t=>⟨[(0,.v (.c (.ptr (.ext 0) 0))),(2,.v (.d (.int .i64 0))),(3,.v (.d (.int .i64 t.2))),(4,.v (.d (.int .i64 z3)))],[(.ext 0,.cells [.ow (.ext 1)]),(.ext 1,.tree .flat true 7 l1 none)],704⟩) (fun t=>t.1≤m2∧L63_3 t.1 l1 z3 t.2=some (r1,r2)) ?_ ?_
 rotate_left
 ·clear h
  rintro⟨m3,z16⟩ ⟨hm3,h⟩
  replace hm3:m3≤m2:=hm3
  obtain _ | m3:=m3
  ·replace h:L63_3 0 l1 z3 z16=some (r1,r2):=h
   rw[L63_3]at h
   cases h
  replace h:L63_3 (m3+1) l1 z3 z16=some (r1,r2):=h
  rw[L63_3]at h
  try cbv
  replace h:=letF_inv h
  obtain⟨z17,hz,h⟩:=h
  refine⟨z17,hz,?_⟩
  clear hz
  try cbv
  refine loop_nextG (m3,(z16,z17)) [] [] [0,2,3,4] [.ext 0,.ext 1] 96 ⟨by omega,h⟩ (Nat.lt_succ_of_le (by omega)) ?_
  try cbv
 try cbv
 refine seq_go ?_
 try cbv
 replace h:=needF_inv h
 obtain⟨hn,h⟩:=h
 refine⟨(M.lock_iff _).2 hn,?_⟩
 clear hn
 try cbv
 replace h:=getN_inv h
 obtain⟨x6,hx,h⟩:=h
 replace h:=ds_t183_inv h
 obtain⟨z7,z8,s9,l10,z11,l12,b13,rfl,h⟩:=h
 refine⟨_,hx,?_⟩
 clear hx
 try cbv
 replace h:=letB_inv h
 obtain⟨b14,hz,h⟩:=h
 refine⟨b14,not_eq' hz,?_⟩
 clear hz
 try cbv
 cases b14
 ·replace h:=ite_f Bool.false_ne_true h
  try cbv
  exact join_next (m2,z2) [0,2,3,4] [.ext 0,.ext 1] 704 ⟨by omega,h⟩ (by cbv)
 replace h:=ite_t rfl h
 try cbv
 replace h:=letF_inv h
 obtain⟨z15,hz,h⟩:=h
 refine⟨z15,hz,?_⟩
 clear hz
 try cbv
 exact join_next (m2,z15) [0,2,3,4] [.ext 0,.ext 1] 704 ⟨by omega,h⟩ (by cbv)
end Go.Proofs.Ytiiojajgajnhpaa
end
set_option linter.unusedVariables false
noncomputable section
namespace Go.Proofs.Ytiiojajgajnhpaa
open Go Go.AM
theorem swS_HS {H:List (VV×Bool)}(hH:HS H) (id:Int) (q:List Int) {x:VV}(hx:VS x):HS (swS H id q x).2.2:=by
 unfold swS
 by_cases c:(fnd H id).2=0
 ·by_cases g:(getS q (fnd H id).1).2=0
  ·simp only[if_pos c,if_pos g];exact hH.set _ (setS_VS hx q (fnd_VS hH id))
  ·simp only[if_pos c,if_neg g];exact hH
 ·simp only[if_neg c];exact hH
theorem ptS_HS {H:List (VV×Bool)}(hH:HS H) (id:Int) (q:List Int) {x:VV}(hx:VS x):HS (ptS H id q x).2:=by
 unfold ptS
 by_cases c:(fnd H id).2=0
 ·by_cases f:(setS q (fnd H id).1 x).2=0
  ·by_cases g:(getS q (fnd H id).1).2=3
   ·simp only[if_pos c,if_pos f,if_pos g];exact hH.set _ (setS_VS hx q (fnd_VS hH id))
   ·simp only[if_pos c,if_pos f,if_neg g];exact hH
  ·simp only[if_pos c,if_neg f];exact hH
 ·simp only[if_neg c];exact hH
theorem frS_HS {H:List (VV×Bool)}(hH:HS H) (id:Int):HS (frS H id).2.2:=by
 unfold frS
 by_cases c:(fnd H id).2=0
 ·simp only[if_pos c];exact hH.set _ zeroV_VS
 ·by_cases g:(fnd H id).2=1
  ·simp only[if_neg c,if_pos g];exact hH
  ·simp only[if_neg c,if_neg g];exact hH
structure AA where
 kd:Int
 id:Int
 q:List Int
 v:VV
def AA.row (a:AA):D:=.agg [.int .i64 a.kd,.int .i64 a.id,.list false 1 (pD a.q),.int .u8 a.v.k,.int .i64 a.v.i,.str a.v.nm,.list true 6 a.v.fs,.int .i64 a.v.id,.list false 1 a.v.pt]
structure AT (a:AA):Prop where
 kd:(Lit.int .i64 a.kd).wf=true
 id:(Lit.int .i64 a.id).wf=true
 q:∀z∈a.q,(Lit.int .i64 z).wf=true
 ql:a.q.length≤maxLen
 v:VT a.v
theorem actRow {x:D}(h:RowS tab 90 x):∃a:AA,x=a.row∧AT a:=by
 obtain⟨a0,a1,a2,a3,a4,a5,a6,a7,a8,rfl,w0,w1,w2,w3,w4,w5,w6,w7,w8⟩:=rs90 h
 obtain⟨q,rfl,hq⟩:=intsS w2
 exact⟨⟨a0,a1,q,⟨a3,a4,a5,a6,a7,a8⟩⟩,rfl,⟨w0,w1,hq,by simpa using w2.1,⟨w3,w4,w5,w6,w7,w8⟩⟩⟩
theorem ds28 {γ:Type}(a:AA) (k:Int→Int→List D→Int→Int→ByteArray→List D→Int→List D→Option γ):ds_t90 a.row k=k a.kd a.id (pD a.q) a.v.k a.v.i a.v.nm a.v.fs a.v.id a.v.pt:=rfl
theorem arow_inj {a b:AA}(h:a.row=b.row):a=b:=by
 obtain⟨k,i,q,v⟩:=a
 obtain⟨k',i',q',v'⟩:=b
 unfold AA.row at h
 simp only[D.agg.injEq,List.cons.injEq,D.int.injEq,D.list.injEq,D.str.injEq,true_and,and_true]at h
 obtain⟨h1,h2,h3,h4,h5,h6,h7,h8,h9⟩:=h
 have h3':=pD_inj h3
 obtain⟨a,b,c,d,e,f⟩:=v
 obtain⟨a',b',c',d',e',f'⟩:=v'
 simp only at h4 h5 h6 h7 h8 h9
 subst h1 h2 h3' h4 h5 h6 h7 h8 h9
 rfl
theorem one_sm {v:VV}(h:Sm [v.row]):v.pt.length≤10000∧Sm v.fs:=⟨h.pt (by simp),h.fs (by simp)⟩
structure AOK (a:AA):Prop where
 t:AT a
 q:a.q.length≤50
 v:VS a.v
theorem ev7 {l:List D}(h:ListS tab 90 l):∃b,Ev (fun n=>F50 n l) b∧(b=false→l.length≤60∧∀(j:Nat) (a:AA),l[j]?=some a.row→AOK a):=by
 unfold F50
 by_cases c:(60:Int)<(l.length:Int)
 ·refine⟨true,?_,fun h=>by cases h⟩
  simp only[lenF,if_pos c]
  exact .succ (by simp only[L50_1,if_true];exact .ret)
 have loop:∀i:Nat,i≤l.length→∀z:Int,-1≤z→z≤10000→∃b,Ev (fun n=>L50_2 n l z (i:Int)) b∧(b=false→0≤z∧∀j:Nat,i≤j→∀a:AA,l[j]?=some a.row→AOK a):=by
  refine down _ ?_ (fun i hi ih=>?_)
  ·intro z h1 h2
   refine⟨decide (z<0),.succ ?_,fun hb=>⟨by simpa using hb,fun j hj a ha=>absurd ((List.getElem?_eq_some_iff.1 ha).1) (by omega)⟩⟩
   simp only[L50_2,lenF,Int.lt_irrefl,if_false]
   refine .succ ?_
   simp only[L50_3,Bool.false_eq_true,if_false]
   by_cases c:z<0
   ·simp only[if_pos c,decide_eq_true c];exact .ret
   ·simp only[if_neg c,decide_eq_false c];exact .ret
  ·intro z h1 h2
   obtain⟨x,hx,_,hr⟩:=h.get hi
   obtain⟨a,rfl,ha⟩:=actRow hr
   by_cases cq:(50:Int)<(a.q.length:Int)
   ·refine⟨true,.succ ?_,fun h=>by cases h⟩
    simp only[L50_2,lenF,if_pos (ilt hi)]
    refine .succ ?_
    simp only[L50_3,if_true,getF_nat hx,ds28,lenF,List.length_map,if_pos cq]
    exact .succ (by simp only[L50_4,if_true];exact .ret)
   ·obtain⟨r,k1,k2,k3,k4⟩:=ev24 [a.v.row] (.one ha.v.rowS) z h1 h2
    obtain⟨b,b1,b2⟩:=ih r k2 (by omega)
    refine⟨b,.succ ?_,fun hb=>?_⟩
    ·simp only[L50_2,lenF,if_pos (ilt hi)]
     refine .succ ?_
     simp only[L50_3,if_true,getF_nat hx,ds28,lenF,List.length_map,if_neg cq]
     refine .succ ?_
     simp only[L50_4,Bool.false_eq_true,if_false,getF_nat hx,ds28]
     refine Ev.bO1 k1 ?_
     simp only[letF,wrap_succ hi h.1]
     exact b1
    ·obtain⟨q1,q2⟩:=b2 hb
     refine⟨by omega,fun j hj b' hb'=>?_⟩
     by_cases e:j=i
     ·subst e
      rw[hx]at hb'
      obtain rfl:=arow_inj (Option.some.inj hb')
      obtain⟨s1,s2⟩:=one_sm (k4 q1).1
      exact⟨ha,by omega,ha.v,s1,s2⟩
     ·exact q2 j (by omega) b' hb'
 obtain⟨b,b1,b2⟩:=loop 0 (Nat.zero_le _) 10000 (by omega) (by omega)
 refine⟨b,?_,fun hb=>⟨by omega,fun j a ha=>(b2 hb).2 j (Nat.zero_le _) a ha⟩⟩
 simp only[lenF,if_neg c]
 exact .succ (by simp only[L50_1,Bool.false_eq_true,if_false];exact b1)
theorem AT.rowS {a:AA}(h:AT a):RowS tab 90 a.row:=by
 have hp:ListS tab 3 (pD a.q):=⟨by simpa using h.ql,fun x hx=>by
  obtain⟨z,hz,rfl⟩:=List.mem_map.1 hx
  exact mk3 (h.q z hz)⟩
 exact mk90 h.kd h.id hp h.v.k h.v.i h.v.nm h.v.fs h.v.id h.v.pt
open Classical in
theorem same_self {v:VV}(h:VT v):Ev (fun n=>F34 n v.k v.i v.nm v.fs v.id v.pt v.k v.i v.nm v.fs v.id v.pt) true:=by
 have:=ev11 h h
 rwa [decide_eq_true rfl]at this
def alive (H:List (VV×Bool)):Nat:=(H.filter fun c=>!c.2).length
theorem alive_le (H:List (VV×Bool)):alive H≤H.length:=List.length_filter_le _ _
theorem alive_app (H:List (VV×Bool)) (v:VV):alive (H++[(v,false)])=alive H+1:=by simp[alive]
theorem alive_set:∀(H:List (VV×Bool)) (i:Nat) (v w:VV),H[i]?=some (v,false)→alive (H.set i (w,true))+1=alive H
 | [],i,v,w,h=>by simp at h
 | c::r,0,v,w,h=>by
  obtain rfl:c=(v,false):=by simpa using h
  simp[alive]
 | c::r,i+1,v,w,h=>by
  have ih:=alive_set r i v w (by simpa using h)
  unfold alive at ih ⊢
  simp only[List.set_cons_succ,List.filter_cons]
  split
  ·simp only[List.length_cons];omega
  ·omega
theorem alive_keep:∀(H:List (VV×Bool)) (i:Nat) (v w:VV),H[i]?=some (v,false)→alive (H.set i (w,false))=alive H
 | [],i,v,w,h=>by simp at h
 | c::r,0,v,w,h=>by
  obtain rfl:c=(v,false):=by simpa using h
  simp[alive]
 | c::r,i+1,v,w,h=>by
  have ih:=alive_keep r i v w (by simpa using h)
  unfold alive at ih ⊢
  simp only[List.set_cons_succ,List.filter_cons]
  split
  ·simp only[List.length_cons,ih]
  ·exact ih
theorem fnd_get {H:List (VV×Bool)}{id:Int}(h:(fnd H id).2=0):H[id.toNat]?=some ((fnd H id).1,false):=(look_some (fnd_ok h)).2.2.1
abbrev R6 (v:VV):Int×Int×ByteArray×List D×Int×List D:=(v.k,v.i,v.nm,v.fs,v.id,v.pt)
theorem ev93L (l:List D):ListS tab 49 l→Sm l→Ev (fun n=>F93 n l) l:=by
 refine list_ind (P:=fun l=>ListS tab 49 l→Sm l→Ev (fun n=>F93 n l) l) (fun l ih h hs=>?_) l
 have hM:10000<maxLen:=by decide
 have hl:=hs.len
 have loop:∀i:Nat,i≤l.length→Ev (fun n=>L93_1 n l (i:Int) (l.take i)) l:=by
  refine down l.length ?_ ?_
  ·refine .succ ?_
   simp only[L93_1,lenF,Int.lt_irrefl,if_false]
   refine .succ ?_
   simp only[L93_2,Bool.false_eq_true,if_false,List.take_length]
   exact .ret
  ·intro i hi ihd
   obtain⟨v,hx,hm,hv⟩:=rowV h hi
   have ht:l.take (i+1)=l.take i++[v.row]:=by rw[List.take_add_one,hx];rfl
   have hp:=hs.pt hm
   have hf:=(hs.fs hm).len
   refine .succ ?_
   simp only[L93_1,lenF,if_pos (ilt hi)]
   refine .succ ?_
   simp only[L93_2,if_true,getF_nat hx,ds25]
   have h29:Ev (fun n=>F29 n v.k v.i v.nm v.fs v.id v.pt) (v.k,v.i,v.nm,v.id,v.fs,v.pt):=by
    refine .succ ?_
    simp only[F29]
    refine Ev.bO1 (ih v.fs (size_fs hm) hv.fs (hs.fs hm)) ?_
    have ha:∀{γ:Type} (k:List D→Option γ),appF 88 ([]:List D) v.fs k=k v.fs:=fun k=>appF_ok (by simp only[List.length_nil];omega)
    have hb:∀{γ:Type} (k:List D→Option γ),appF 8 ([]:List D) v.pt k=k v.pt:=fun k=>appF_ok (by simp only[List.length_nil];omega)
    simp only[ha,hb,need_pos (scal_ints hv.pt)]
    exact .ret
   refine Ev.bO6 h29 ?_
   have hb:(l.take i).length+[v.row].length≤maxLen∧((l.take i).length+[v.row].length)*88≤140737488355328:=by simp only[List.length_take,List.length_cons,List.length_nil];omega
   have ha:∀k:List D→Option (List D),appF 88 (l.take i) [.agg [.int .u8 v.k,.int .i64 v.i,.str v.nm,.list true 6 v.fs,.int .i64 v.id,.list false 1 v.pt]] k=k (l.take i++[v.row]):=fun k=>appF_ok hb
   simp only[ha,letF,wrap_succ hi h.1]
   rw[ht]at ihd
   exact ihd
 refine .succ ?_
 simp only[F93]
 exact loop 0 (Nat.zero_le _)
theorem ev29 {v:VV}(h:VS v):Ev (fun n=>F29 n v.k v.i v.nm v.fs v.id v.pt) (v.k,v.i,v.nm,v.id,v.fs,v.pt):=by
 have hM:10000<maxLen:=by decide
 have hp:=h.p
 have hf:=h.f.len
 refine .succ ?_
 simp only[F29]
 refine Ev.bO1 (ev93L v.fs h.t.fs h.f) ?_
 have ha:∀{γ:Type} (k:List D→Option γ),appF 88 ([]:List D) v.fs k=k v.fs:=fun k=>appF_ok (by simp only[List.length_nil];omega)
 have hb:∀{γ:Type} (k:List D→Option γ),appF 8 ([]:List D) v.pt k=k v.pt:=fun k=>appF_ok (by simp only[List.length_nil];omega)
 simp only[ha,hb,need_pos (scal_ints h.t.pt)]
 exact .ret
theorem ev29z {v:VV}(h:VS v):Ev (fun n=>F29z n v.k v.i v.nm v.fs v.id v.pt) (R6 v):=by
 have hM:10000<maxLen:=by decide
 have hp:=h.p
 have hf:=h.f.len
 unfold F29z
 refine Ev.bO1 (ev93L v.fs h.t.fs h.f) ?_
 have ha:∀{γ:Type} (k:List D→Option γ),appF 88 ([]:List D) v.fs k=k v.fs:=fun k=>appF_ok (by simp only[List.length_nil];omega)
 have hb:∀{γ:Type} (k:List D→Option γ),appF 8 ([]:List D) v.pt k=k v.pt:=fun k=>appF_ok (by simp only[List.length_nil];omega)
 simp only[ha,hb,need_pos (scal_ints h.t.pt)]
 exact .ret
theorem ev96 (v:VV) (z:Int):Ev (fun n=>F96 n v.k v.i v.nm v.fs v.id v.pt z) (leads v z):=by
 have t2:Ev (fun n=>L96_2 n true) 6:=.succ (by simp only[L96_2,if_true];exact .ret)
 have f2:Ev (fun n=>L96_2 n false) 0:=.succ (by simp only[L96_2,Bool.false_eq_true,if_false];exact .ret)
 unfold F96 leads
 by_cases c:v.k=0
 ·simp only[if_pos c]
  exact .succ (by simp only[L96_1,if_true];exact .ret)
 ·simp only[if_neg c]
  refine .succ ?_
  simp only[L96_1,Bool.false_eq_true,if_false,lenF]
  by_cases a:v.k=4
  ·simp only[if_pos a]
   by_cases b:z<0
   ·simp only[if_pos b,if_neg (show ¬((v.k=4∨v.k=5)∧0≤z∧z<(v.fs.length:Int))by omega)];exact t2
   ·by_cases d:(v.fs.length:Int)≤z
    ·simp only[if_neg b,if_pos d,if_neg (show ¬((v.k=4∨v.k=5)∧0≤z∧z<(v.fs.length:Int))by omega)];exact t2
    ·simp only[if_neg b,if_neg d,if_pos (show ((v.k=4∨v.k=5)∧0≤z∧z<(v.fs.length:Int))by omega)];exact f2
  ·simp only[if_neg a]
   by_cases a':v.k=5
   ·simp only[if_pos a']
    by_cases b:z<0
    ·simp only[if_pos b,if_neg (show ¬((v.k=4∨v.k=5)∧0≤z∧z<(v.fs.length:Int))by omega)];exact t2
    ·by_cases d:(v.fs.length:Int)≤z
     ·simp only[if_neg b,if_pos d,if_neg (show ¬((v.k=4∨v.k=5)∧0≤z∧z<(v.fs.length:Int))by omega)];exact t2
     ·simp only[if_neg b,if_neg d,if_pos (show ((v.k=4∨v.k=5)∧0≤z∧z<(v.fs.length:Int))by omega)];exact f2
   ·simp only[if_neg a',if_neg (show ¬((v.k=4∨v.k=5)∧0≤z∧z<(v.fs.length:Int))by omega)];exact t2
theorem from1 {γ:Type}(z:Int) (q:List Int) (k:List D→Option γ):fromF (pD (z::q)) (1:Int) k=k (pD q):=by
 unfold fromF
 rw[if_pos ⟨by omega,by simp only[List.length_map,List.length_cons];omega⟩]
 rfl
theorem get0 {γ:Type}(z:Int) (q:List Int) (k:D→Option γ):getF (pD (z::q)) 0 k=k (.int .i64 z):=getF_nat (i:=0) rfl
theorem ev31:∀(q:List Int) {v:VV},VS v→Ev (fun n=>F31 n v.k v.i v.nm v.fs v.id v.pt (pD q)) ((getS q v).1.k,(getS q v).1.i,(getS q v).1.nm,(getS q v).1.fs,(getS q v).1.id,(getS q v).1.pt,(getS q v).2)
 | [],v,hv=>by
  refine .succ ?_
  simp only[F31,lenF,List.map_nil,List.length_nil,show ((0:Nat):Int)=0 from rfl,if_true]
  refine .succ ?_
  simp only[L31_1,if_true]
  unfold getS
  by_cases c:v.k=0
  ·simp only[if_pos c]
   exact .succ (by simp only[L31_2,if_true];exact .ret)
  ·simp only[if_neg c]
   refine .succ ?_
   simp only[L31_2,Bool.false_eq_true,if_false]
   exact Ev.bO6 (ev29z hv) .ret
 | z::q,v,hv=>by
  refine .succ ?_
  simp only[F31,lenF,List.length_map,if_neg (show ¬((z::q).length:Int)=0 by simp only[List.length_cons];omega)]
  refine .succ ?_
  simp only[L31_1,Bool.false_eq_true,if_false,get0,ds_i64]
  refine Ev.bO1 (ev96 v z) ?_
  unfold getS
  by_cases c:leads v z=0
  ·obtain⟨e1,_,e3⟩:=part_ok hv c
   simp only[if_pos c]
   refine .succ ?_
   have hg:∀{γ:Type} (k:D→Option γ),getF v.fs z k=k (part v z).row:=fun k=>getF_some (leads_ok c).2.2.1 e1
   simp only[L31_3,Bool.false_eq_true,if_false,hg,ds25,from1]
   exact Ev.bO7 (ev31 q e3) .ret
  ·simp only[if_neg c]
   exact .succ (by simp only[L31_3,if_true];exact .ret)
theorem setR_cons {v x:VV}{z:Int}{q:List Int}:setR (z::q) v x=if leads v z=0 then (if (setR q (part v z) x).2=0 then (setp v z (setR q (part v z) x).1,0)else (zeroV,(setR q (part v z) x).2))else (zeroV,leads v z):=by
 unfold setR
 by_cases c:leads v z=0
 ·have e:setS (z::q) v x=(setp v z (setS q (part v z) x).1,(setS q (part v z) x).2):=by rw[setS,if_pos c]
  rw[e,if_pos c]
  by_cases d:(setS q (part v z) x).2=0
  ·simp only[if_pos d,if_true]
  ·simp only[if_neg d]
 ·have e:setS (z::q) v x=(v,leads v z):=by rw[setS,if_neg c]
  rw[e,if_neg c]
  simp only[if_neg c]
theorem ev33 {x:VV}(hx:VS x):∀(q:List Int) {v:VV},VS v→Ev (fun n=>F33 n v.k v.i v.nm v.fs v.id v.pt (pD q) x.k x.i x.nm x.fs x.id x.pt) ((setR q v x).1.k,(setR q v x).1.i,(setR q v x).1.nm,(setR q v x).1.id,(setR q v x).2,(setR q v x).1.fs,(setR q v x).1.pt)
 | [],v,hv=>by
  refine .succ ?_
  simp only[F33,lenF,List.map_nil,List.length_nil,show ((0:Nat):Int)=0 from rfl,if_true]
  refine .succ ?_
  simp only[L33_1,if_true]
  exact Ev.bO6 (ev29 hx) .ret
 | z::q,v,hv=>by
  refine .succ ?_
  simp only[F33,lenF,List.length_map,if_neg (show ¬((z::q).length:Int)=0 by simp only[List.length_cons];omega)]
  refine .succ ?_
  simp only[L33_1,Bool.false_eq_true,if_false,get0,ds_i64]
  refine Ev.bO1 (ev96 v z) ?_
  rw[setR_cons]
  by_cases c:leads v z=0
  ·obtain⟨e1,_,e3⟩:=part_ok hv c
   obtain⟨_,_,c1,c2⟩:=leads_ok c
   simp only[if_pos c]
   refine .succ ?_
   have hg:∀{γ:Type} (k:D→Option γ),getF v.fs z k=k (part v z).row:=fun k=>getF_some (leads_ok c).2.2.1 e1
   simp only[L33_2,Bool.false_eq_true,if_false,hg,ds25,from1]
   refine Ev.bO7 (ev33 hx q e3) ?_
   by_cases d:(setR q (part v z) x).2=0
   ·simp only[if_pos d]
    refine .succ ?_
    simp only[L33_3,Bool.false_eq_true,if_false]
    refine Ev.bO6 (ev29 hv) ?_
    simp only[need_pos (show 0≤z∧z.toNat<v.fs.length from⟨c1,c2⟩),getN_some e1,ds25,setF]
    exact .ret
   ·simp only[if_neg d]
    exact .succ (by simp only[L33_3,if_true];exact .ret)
  ·simp only[if_neg c]
   exact .succ (by simp only[L33_2,if_true];exact .ret)
theorem ev33z {x:VV}(hx:VS x) (q:List Int) {v:VV}(hv:VS v):Ev (fun n=>F33z n v.k v.i v.nm v.fs v.id v.pt (pD q) x.k x.i x.nm x.fs x.id x.pt) ((setR q v x).1.k,(setR q v x).1.i,(setR q v x).1.nm,(setR q v x).1.fs,(setR q v x).1.id,(setR q v x).1.pt,(setR q v x).2):=by
 unfold F33z
 match q with
 | []=>
  simp only[lenF,List.map_nil,List.length_nil,show ((0:Nat):Int)=0 from rfl,if_true]
  refine .succ ?_
  simp only[L33z_1,if_true]
  exact Ev.bO6 (ev29 hx) .ret
 | z::q=>
  simp only[lenF,List.length_map,if_neg (show ¬((z::q).length:Int)=0 by simp only[List.length_cons];omega)]
  refine .succ ?_
  simp only[L33z_1,Bool.false_eq_true,if_false,get0,ds_i64]
  refine Ev.bO1 (ev96 v z) ?_
  rw[setR_cons]
  by_cases c:leads v z=0
  ·obtain⟨e1,_,e3⟩:=part_ok hv c
   obtain⟨_,_,c1,c2⟩:=leads_ok c
   simp only[if_pos c]
   refine .succ ?_
   have hg:∀{γ:Type} (k:D→Option γ),getF v.fs z k=k (part v z).row:=fun k=>getF_some (leads_ok c).2.2.1 e1
   simp only[L33z_2,Bool.false_eq_true,if_false,hg,ds25,from1]
   refine Ev.bO7 (ev33 hx q e3) ?_
   by_cases d:(setR q (part v z) x).2=0
   ·simp only[if_pos d]
    refine .succ ?_
    simp only[L33z_3,Bool.false_eq_true,if_false]
    refine Ev.bO6 (ev29 hv) ?_
    simp only[need_pos (show 0≤z∧z.toNat<v.fs.length from⟨c1,c2⟩),getN_some e1,ds25,setF]
    exact .ret
   ·simp only[if_neg d]
    exact .succ (by simp only[L33z_3,if_true];exact .ret)
  ·simp only[if_neg c]
   exact .succ (by simp only[L33z_2,if_true];exact .ret)
def wrow (c:VV×Bool):D:=.agg [.int .u8 c.1.k,.int .i64 c.1.i,.str c.1.nm,.list true 6 c.1.fs,.int .i64 c.1.id,.list false 1 c.1.pt,.bool c.2]
abbrev wm (H:List (VV×Bool)):List D:=H.map wrow
theorem dsw {γ:Type}(c:VV×Bool) (k:Int→Int→ByteArray→List D→Int→List D→Bool→Option γ):ds_t183 (wrow c) k=k c.1.k c.1.i c.1.nm c.1.fs c.1.id c.1.pt c.2:=rfl
theorem wm_get {H:List (VV×Bool)}{i:Nat}{c:VV×Bool}(h:H[i]?=some c):(wm H)[i]?=some (wrow c):=by simp only[List.getElem?_map,h,Option.map_some]
theorem wm_set {H:List (VV×Bool)}{i:Nat}{c:VV×Bool}:(wm H).set i (wrow c)=wm (H.set i c):=(List.map_set ..).symm
theorem ev64 (H:List (VV×Bool)) (id:Int):Ev (fun n=>F64 n id (wm H)) ((fnd H id).2,wm H):=by
 unfold F64
 have no:fnd H id=(zeroV,6)→Ev (fun n=>L64_1 n id (wm H) true) ((fnd H id).2,wm H):=fun e=>.succ (by simp only[L64_1,if_true,e];exact .ret)
 by_cases a:id<0
 ·simp only[if_pos a]
  refine no ?_
  unfold fnd look
  rw[if_neg (by omega)]
 ·simp only[if_neg a,lenF,List.length_map]
  by_cases b:(H.length:Int)≤id
  ·simp only[if_pos b]
   refine no ?_
   unfold fnd look
   rw[if_pos (by omega),List.getElem?_eq_none (by omega)]
  ·simp only[if_neg b]
   have hi:id.toNat<H.length:=by omega
   have hg:H[id.toNat]?=some H[id.toNat]:=List.getElem?_eq_getElem hi
   refine .succ ?_
   simp only[L64_1,Bool.false_eq_true,if_false,need_pos (show 0≤id∧id.toNat<(wm H).length by simp only[List.length_map];omega),getN_some (wm_get hg),dsw]
   have hl:look H id=some H[id.toNat]:=by unfold look;rw[if_pos (by omega),hg]
   unfold fnd
   rw[hl]
   obtain⟨v,f⟩:=H[id.toNat]
   cases f with
   | true=>simp only[if_true];exact .ret
   | false=>simp only[Bool.false_eq_true,if_false];exact .ret
theorem fnd_at {H:List (VV×Bool)}{id:Int}(h:(fnd H id).2=0):0≤id∧id.toNat<(wm H).length∧(wm H)[id.toNat]?=some (wrow ((fnd H id).1,false)):=by
 obtain⟨h1,h2,h3,_⟩:=look_some (fnd_ok h)
 exact⟨h1,by simpa using h2,wm_get h3⟩
theorem ev113 {H:List (VV×Bool)}(hH:HS H) (id:Int) (q:List Int):Ev (fun n=>F113 n id (pD q) (wm H)) ((rdS H id q).1.k,(rdS H id q).1.i,(rdS H id q).1.nm,(rdS H id q).1.fs,(rdS H id q).1.id,(rdS H id q).1.pt,(rdS H id q).2,wm H):=by
 unfold F113 rdS
 refine Ev.bO2 (ev64 H id) ?_
 by_cases c:(fnd H id).2=0
 ·obtain⟨h1,h2,h3⟩:=fnd_at c
  simp only[if_pos c]
  refine .succ ?_
  simp only[L113_1,Bool.false_eq_true,if_false,need_pos (⟨h1,h2⟩:0≤id∧id.toNat<(wm H).length),getN_some h3,dsw]
  exact Ev.bO7 (ev31 q (fnd_VS hH id)) .ret
 ·simp only[if_neg c]
  exact .succ (by simp only[L113_1,if_true];exact .ret)
theorem ev112full {H:List (VV×Bool)}(hl:H.length=1000) (v:VV):Ev (fun n=>F112 n v.k v.i v.nm v.fs v.id v.pt (wm H)) (.inl (wm H)):=by
 unfold F112
 simp only[lenF,List.length_map,if_pos (show (1000:Int)≤(H.length:Int)by omega)]
 exact .succ (by simp only[L112_1,if_true];exact .ret)
theorem ev112 {H:List (VV×Bool)}(hl:H.length<1000) {v:VV}(hv:VS v):Ev (fun n=>F112 n v.k v.i v.nm v.fs v.id v.pt (wm H)) (.inr ((H.length:Int),wm (H++[(v,false)]))):=by
 have hM:10000<maxLen:=by decide
 unfold F112
 simp only[lenF,List.length_map,if_neg (show ¬(1000:Int)≤(H.length:Int)by omega)]
 refine .succ ?_
 simp only[L112_1,Bool.false_eq_true,if_false]
 refine Ev.bO6 (ev29z hv) ?_
 have ha:∀{γ:Type} (k:List D→Option γ),appF 96 (wm H) [.agg [.int .u8 v.k,.int .i64 v.i,.str v.nm,.list true 6 v.fs,.int .i64 v.id,.list false 1 v.pt,.bool false]] k=k (wm (H++[(v,false)])):=by
  intro γ k
  rw[appF_ok (by simp only[List.length_map,List.length_cons,List.length_nil];omega)]
  simp[wrow]
 simp only[ha,lenF,letF,List.length_map,List.length_append,List.length_cons,List.length_nil]
 rw[iw (by omega) (by omega),show (((H.length+(0+1):Nat):Int)) - 1=(H.length:Int)by omega]
 exact .ret
theorem ev114 {H:List (VV×Bool)}(hH:HS H) (id:Int) (q:List Int) {x:VV}(hx:VS x):Ev (fun n=>F114 n id (pD q) x.k x.i x.nm x.fs x.id x.pt (wm H)) ((ptS H id q x).1,wm (ptS H id q x).2):=by
 unfold F114 ptS
 refine Ev.bO2 (ev64 H id) ?_
 by_cases c:(fnd H id).2=0
 ·obtain⟨h1,h2,h3⟩:=fnd_at c
  have hv:=fnd_VS hH id
  simp only[if_pos c]
  refine .succ ?_
  simp only[L114_1,Bool.false_eq_true,if_false,need_pos (⟨h1,h2⟩:0≤id∧id.toNat<(wm H).length),getN_some h3,dsw]
  refine Ev.bO7 (ev33z hx q hv) ?_
  by_cases f:(setS q (fnd H id).1 x).2=0
  ·have hR:setR q (fnd H id).1 x=((setS q (fnd H id).1 x).1,0):=by unfold setR;rw[if_pos f]
   simp only[hR,if_true,if_pos f]
   refine .succ ?_
   simp only[L114_2,Bool.false_eq_true,if_false,need_pos (⟨h1,h2⟩:0≤id∧id.toNat<(wm H).length),getN_some h3,dsw]
   refine Ev.bO7 (ev31 q hv) ?_
   by_cases g:(getS q (fnd H id).1).2=3
   ·simp only[if_pos g]
    refine .succ ?_
    simp only[L114_3,Bool.false_eq_true,if_false,need_pos (⟨h1,h2⟩:0≤id∧id.toNat<(wm H).length),getN_some h3,dsw]
    simp only[setF]
    rw[←wm_set]
    exact .ret
   ·simp only[if_neg g]
    exact .succ (by simp only[L114_3,if_true];exact .ret)
  ·have hR:setR q (fnd H id).1 x=(zeroV,(setS q (fnd H id).1 x).2):=by unfold setR;rw[if_neg f]
   simp only[hR,if_neg f]
   exact .succ (by simp only[L114_2,if_true];exact .ret)
 ·simp only[if_neg c]
  exact .succ (by simp only[L114_1,if_true];exact .ret)
theorem ev117 {H:List (VV×Bool)}(hH:HS H) (id:Int) (q:List Int) {x:VV}(hx:VS x):Ev (fun n=>F117 n id (pD q) x.k x.i x.nm x.fs x.id x.pt (wm H)) ((swS H id q x).1.k,(swS H id q x).1.i,(swS H id q x).1.nm,(swS H id q x).1.fs,(swS H id q x).1.id,(swS H id q x).1.pt,(swS H id q x).2.1,wm (swS H id q x).2.2):=by
 unfold F117
 refine Ev.bO8 (ev113 hH id q) ?_
 unfold rdS swS
 by_cases c:(fnd H id).2=0
 ·obtain⟨h1,h2,h3⟩:=fnd_at c
  have hv:=fnd_VS hH id
  simp only[if_pos c]
  by_cases g:(getS q (fnd H id).1).2=0
  ·have hs:=set_of_get q (fnd H id).1 x g
   have hR:setR q (fnd H id).1 x=((setS q (fnd H id).1 x).1,0):=by unfold setR;rw[if_pos hs]
   simp only[if_pos g]
   refine .succ ?_
   simp only[L117_1,Bool.false_eq_true,if_false,need_pos (⟨h1,h2⟩:0≤id∧id.toNat<(wm H).length),getN_some h3,dsw]
   refine Ev.bO7 (ev33z hx q hv) ?_
   simp only[hR,if_true]
   refine .succ ?_
   simp only[L117_2,Bool.false_eq_true,if_false,need_pos (⟨h1,h2⟩:0≤id∧id.toNat<(wm H).length),getN_some h3,dsw]
   simp only[setF]
   rw[←wm_set]
   exact .ret
  ·simp only[if_neg g]
   exact .succ (by simp only[L117_1,if_true];exact .ret)
 ·simp only[if_neg c]
  exact .succ (by simp only[L117_1,if_true];exact .ret)
theorem ev116 {H:List (VV×Bool)}(hH:HS H) (id:Int) (q:List Int):Ev (fun n=>F116 n id (pD q) (wm H)) ((swS H id q zeroV).1.k,(swS H id q zeroV).1.i,(swS H id q zeroV).1.nm,(swS H id q zeroV).1.fs,(swS H id q zeroV).1.id,(swS H id q zeroV).1.pt,(swS H id q zeroV).2.1,wm (swS H id q zeroV).2.2):=by
 unfold F116
 exact Ev.bO8 (ev117 hH id q zeroV_VS) .ret
theorem ev118 {H:List (VV×Bool)}(hH:HS H) (id:Int):Ev (fun n=>F118 n id (wm H)) ((frS H id).1.k,(frS H id).1.i,(frS H id).1.nm,(frS H id).1.fs,(frS H id).1.id,(frS H id).1.pt,(frS H id).2.1,wm (frS H id).2.2):=by
 unfold F118 frS
 refine Ev.bO2 (ev64 H id) ?_
 rcases fnd_cases H id with c | ⟨c,_⟩ | ⟨c,_⟩
 ·obtain⟨h1,h2,h3⟩:=fnd_at c
  simp only[c,if_neg (show ¬(0:Int)=6 by decide),if_true]
  refine .succ ?_
  simp only[L118_1,Bool.false_eq_true,if_false,if_neg (show ¬(0:Int)=1 by decide)]
  refine .succ ?_
  simp only[L118_2,Bool.false_eq_true,if_false,need_pos (⟨h1,h2⟩:0≤id∧id.toNat<(wm H).length),getN_some h3,dsw]
  simp only[setF]
  rw[←wm_set]
  exact .ret
 ·simp only[c,if_neg (show ¬(1:Int)=6 by decide),if_neg (show ¬(1:Int)=0 by decide),if_true]
  refine .succ ?_
  simp only[L118_1,Bool.false_eq_true,if_false,if_true]
  exact .succ (by simp only[L118_2,if_true];exact .ret)
 ·simp only[c,if_neg (show ¬(6:Int)=0 by decide),if_neg (show ¬(6:Int)=1 by decide),if_true]
  exact .succ (by simp only[L118_1,if_true];exact .ret)
theorem alive_drop {H:List (VV×Bool)}{i:Nat}{c:VV×Bool}(h:H[i]?=some c):alive (H.drop i)=(if c.2=true then 0 else 1)+alive (H.drop (i+1)):=by
 obtain⟨hi,e⟩:=List.getElem?_eq_some_iff.1 h
 rw[List.drop_eq_getElem_cons hi,e]
 unfold alive
 cases hc:c.2 with
 | true=>simp[hc]
 | false=>simp[hc];omega
theorem ev63 (H:List (VV×Bool)) (hl:H.length≤1000):Ev (fun n=>F63 n (wm H)) ((alive H:Int),wm H):=by
 unfold F63
 have loop:∀i:Nat,i≤H.length→∀m:Nat,m+alive (H.drop i)=alive H→Ev (fun n=>L63_1 n (wm H) (m:Int) (i:Int)) ((alive H:Int),wm H):=by
  refine down H.length ?_ ?_
  ·intro m hm
   rw[List.drop_length]at hm
   have:m=alive H:=by simpa [alive] using hm
   subst this
   refine .succ ?_
   simp only[L63_1,lenF,List.length_map,Int.lt_irrefl,if_false]
   exact .succ (by simp only[L63_2,Bool.false_eq_true,if_false];exact .ret)
  ·intro i hi ih m hm
   have hg:H[i]?=some H[i]:=List.getElem?_eq_getElem hi
   rw[alive_drop hg]at hm
   have ha:=alive_le H
   have hw:i<(wm H).length:=by simpa using hi
   have hMl:(wm H).length≤maxLen:=by simp only[List.length_map];exact Nat.le_trans hl (by decide)
   have next:∀m:Nat,m+alive (H.drop (i+1))=alive H→Ev (fun n=>L63_3 n (wm H) (i:Int) (m:Int)) ((alive H:Int),wm H):=by
    intro m hm
    refine .succ ?_
    simp only[L63_3,letF,wrap_succ hw hMl]
    exact ih m hm
   refine .succ ?_
   simp only[L63_1,lenF,List.length_map,if_pos (ilt hi)]
   refine .succ ?_
   simp only[L63_2,if_true,need_pos (show 0≤(i:Int)∧i<(wm H).length by simp only[List.length_map];omega),show (i:Int).toNat=i from rfl,getN_some (wm_get hg),dsw]
   cases hc:H[i].2 with
   | true=>
    simp only[letB,Bool.not_true,Bool.false_eq_true,if_false]
    exact next m (by rw[hc]at hm;simpa using hm)
   | false=>
    simp only[letB,Bool.not_false,if_true,letF]
    rw[iw (by omega) (by omega)]
    exact next (m+1) (by rw[hc]at hm;simp at hm;omega)
 exact loop 0 (Nat.zero_le _) 0 (by simp)
end Go.Proofs.Ytiiojajgajnhpaa
set_option linter.unusedVariables false
noncomputable section
namespace Go.Proofs.Ytiiojajgajnhpaa
open Go Go.AM
mutual
def L62_11:Nat→Int→(List D)→(List D)→Bool→Int→(List D)→Option (((Bool×Int×List D×List D) ⊕ (Bool×Int×List D×List D)))
 | 0,_,_,_,_,_,_=>none
 | n+1,z38,l39,l49,b117,z131,l132=>
  lenF l132 fun z133=>(if z131<z133 then L62_12 n z38 l39 l49 b117 z131 l132 true else L62_12 n z38 l39 l49 b117 z131 l132 false)
def L62_12:Nat→Int→(List D)→(List D)→Bool→Int→(List D)→Bool→Option (((Bool×Int×List D×List D) ⊕ (Bool×Int×List D×List D)))
 | 0,_,_,_,_,_,_,_=>none
 | n+1,z38,l39,l49,b117,z131,l132,b134=>
  (if b134=true then needF (0≤z131∧z131.toNat<l132.length) (getN l132 (z131.toNat) fun x135=>ds_t49 x135 fun z136 z137 s138 l139 z140 l141=>letF (IntKind.wrap .i64 (z131+1)) fun z142=>setF l132 (z131.toNat) (.agg [.int .u8 99,.int .i64 z137,.str s138,.list true 6 l139,.int .i64 z140,.list false 1 l141]) fun l143=>L62_11 n z38 l39 l49 b117 z142 l143)else some (.inl (b117,z38,l39,l49)))
end
mutual
def L62_9:Nat→(List D)→Int→(List D)→(List D)→Bool→Int→(List D)→Option (((Bool×Int×List D×List D) ⊕ (Bool×Int×List D×List D)))
 | 0,_,_,_,_,_,_,_=>none
 | n+1,l17,z38,l39,l49,b117,z118,l119=>
  lenF l119 fun z120=>(if z118<z120 then L62_10 n l17 z38 l39 l49 b117 z118 l119 true else L62_10 n l17 z38 l39 l49 b117 z118 l119 false)
def L62_10:Nat→(List D)→Int→(List D)→(List D)→Bool→Int→(List D)→Bool→Option (((Bool×Int×List D×List D) ⊕ (Bool×Int×List D×List D)))
 | 0,_,_,_,_,_,_,_,_=>none
 | n+1,l17,z38,l39,l49,b117,z118,l119,b121=>
  (if b121=true then needF (0≤z118∧z118.toNat<l119.length) (getN l119 (z118.toNat) fun x122=>ds_t49 x122 fun z123 z124 s125 l126 z127 l128=>letF (IntKind.wrap .i64 (z118+1)) fun z129=>setF l119 (z118.toNat) (.agg [.int .u8 99,.int .i64 z124,.str s125,.list true 6 l126,.int .i64 z127,.list false 1 l128]) fun l130=>L62_9 n l17 z38 l39 l49 b117 z129 l130)else L62_11 n z38 l39 l49 b117 (0:Int) l17)
end
def L62_8:Nat→(List D)→Int→(List D)→(List D)→(List D)→Bool→Option (((Bool×Int×List D×List D) ⊕ (Bool×Int×List D×List D)))
 | 0,_,_,_,_,_,_=>none
 | n+1,l17,z38,l39,l40,l49,b117=>
  L62_9 n l17 z38 l39 l49 b117 (0:Int) l40
mutual
def L62_15:Nat→Int→(List D)→(List D)→Bool→Int→(List D)→Option (((Bool×Int×List D×List D) ⊕ (Bool×Int×List D×List D)))
 | 0,_,_,_,_,_,_=>none
 | n+1,z52,l53,l57,b147,z148,l149=>
  lenF l149 fun z150=>(if z148<z150 then L62_16 n z52 l53 l57 b147 z148 l149 true else L62_16 n z52 l53 l57 b147 z148 l149 false)
def L62_16:Nat→Int→(List D)→(List D)→Bool→Int→(List D)→Bool→Option (((Bool×Int×List D×List D) ⊕ (Bool×Int×List D×List D)))
 | 0,_,_,_,_,_,_,_=>none
 | n+1,z52,l53,l57,b147,z148,l149,b151=>
  (if b151=true then needF (0≤z148∧z148.toNat<l149.length) (getN l149 (z148.toNat) fun x152=>ds_t49 x152 fun z153 z154 s155 l156 z157 l158=>letF (IntKind.wrap .i64 (z148+1)) fun z159=>setF l149 (z148.toNat) (.agg [.int .u8 99,.int .i64 z154,.str s155,.list true 6 l156,.int .i64 z157,.list false 1 l158]) fun l160=>L62_15 n z52 l53 l57 b147 z159 l160)else some (.inl (b147,z52,l53,l57)))
end
def L62_14:Nat→Int→(List D)→(List D)→(List D)→Bool→Option (((Bool×Int×List D×List D) ⊕ (Bool×Int×List D×List D)))
 | 0,_,_,_,_,_=>none
 | n+1,z52,l53,l54,l57,b147=>
  L62_15 n z52 l53 l57 b147 (0:Int) l54
def L62_13:Nat→Int→(List D)→(List D)→(List D)→Bool→Option (((Bool×Int×List D×List D) ⊕ (Bool×Int×List D×List D)))
 | 0,_,_,_,_,_=>none
 | n+1,z52,l53,l54,l57,b147=>
  L62_14 n z52 l53 l54 l57 b147
mutual
def L62_20:Nat→Int→(List D)→(List D)→Bool→Int→(List D)→Option (((Bool×Int×List D×List D) ⊕ (Bool×Int×List D×List D)))
 | 0,_,_,_,_,_,_=>none
 | n+1,z64,l65,l75,b164,z178,l179=>
  lenF l179 fun z180=>(if z178<z180 then L62_21 n z64 l65 l75 b164 z178 l179 true else L62_21 n z64 l65 l75 b164 z178 l179 false)
def L62_21:Nat→Int→(List D)→(List D)→Bool→Int→(List D)→Bool→Option (((Bool×Int×List D×List D) ⊕ (Bool×Int×List D×List D)))
 | 0,_,_,_,_,_,_,_=>none
 | n+1,z64,l65,l75,b164,z178,l179,b181=>
  (if b181=true then needF (0≤z178∧z178.toNat<l179.length) (getN l179 (z178.toNat) fun x182=>ds_t49 x182 fun z183 z184 s185 l186 z187 l188=>letF (IntKind.wrap .i64 (z178+1)) fun z189=>setF l179 (z178.toNat) (.agg [.int .u8 99,.int .i64 z184,.str s185,.list true 6 l186,.int .i64 z187,.list false 1 l188]) fun l190=>L62_20 n z64 l65 l75 b164 z189 l190)else some (.inl (b164,z64,l65,l75)))
end
mutual
def L62_18:Nat→(List D)→Int→(List D)→(List D)→Bool→Int→(List D)→Option (((Bool×Int×List D×List D) ⊕ (Bool×Int×List D×List D)))
 | 0,_,_,_,_,_,_,_=>none
 | n+1,l17,z64,l65,l75,b164,z165,l166=>
  lenF l166 fun z167=>(if z165<z167 then L62_19 n l17 z64 l65 l75 b164 z165 l166 true else L62_19 n l17 z64 l65 l75 b164 z165 l166 false)
def L62_19:Nat→(List D)→Int→(List D)→(List D)→Bool→Int→(List D)→Bool→Option (((Bool×Int×List D×List D) ⊕ (Bool×Int×List D×List D)))
 | 0,_,_,_,_,_,_,_,_=>none
 | n+1,l17,z64,l65,l75,b164,z165,l166,b168=>
  (if b168=true then needF (0≤z165∧z165.toNat<l166.length) (getN l166 (z165.toNat) fun x169=>ds_t49 x169 fun z170 z171 s172 l173 z174 l175=>letF (IntKind.wrap .i64 (z165+1)) fun z176=>setF l166 (z165.toNat) (.agg [.int .u8 99,.int .i64 z171,.str s172,.list true 6 l173,.int .i64 z174,.list false 1 l175]) fun l177=>L62_18 n l17 z64 l65 l75 b164 z176 l177)else L62_20 n z64 l65 l75 b164 (0:Int) l17)
end
def L62_17:Nat→(List D)→Int→(List D)→(List D)→(List D)→Bool→Option (((Bool×Int×List D×List D) ⊕ (Bool×Int×List D×List D)))
 | 0,_,_,_,_,_,_=>none
 | n+1,l17,z64,l65,l66,l75,b164=>
  L62_18 n l17 z64 l65 l75 b164 (0:Int) l66
mutual
def L62_25:Nat→Int→(List D)→(List D)→Bool→Int→(List D)→Option (((Bool×Int×List D×List D) ⊕ (Bool×Int×List D×List D)))
 | 0,_,_,_,_,_,_=>none
 | n+1,z82,l83,l95,b194,z208,l209=>
  lenF l209 fun z210=>(if z208<z210 then L62_26 n z82 l83 l95 b194 z208 l209 true else L62_26 n z82 l83 l95 b194 z208 l209 false)
def L62_26:Nat→Int→(List D)→(List D)→Bool→Int→(List D)→Bool→Option (((Bool×Int×List D×List D) ⊕ (Bool×Int×List D×List D)))
 | 0,_,_,_,_,_,_,_=>none
 | n+1,z82,l83,l95,b194,z208,l209,b211=>
  (if b211=true then needF (0≤z208∧z208.toNat<l209.length) (getN l209 (z208.toNat) fun x212=>ds_t49 x212 fun z213 z214 s215 l216 z217 l218=>letF (IntKind.wrap .i64 (z208+1)) fun z219=>setF l209 (z208.toNat) (.agg [.int .u8 99,.int .i64 z214,.str s215,.list true 6 l216,.int .i64 z217,.list false 1 l218]) fun l220=>L62_25 n z82 l83 l95 b194 z219 l220)else some (.inl (b194,z82,l83,l95)))
end
mutual
def L62_23:Nat→Int→(List D)→(List D)→(List D)→Bool→Int→(List D)→Option (((Bool×Int×List D×List D) ⊕ (Bool×Int×List D×List D)))
 | 0,_,_,_,_,_,_,_=>none
 | n+1,z82,l83,l84,l95,b194,z195,l196=>
  lenF l196 fun z197=>(if z195<z197 then L62_24 n z82 l83 l84 l95 b194 z195 l196 true else L62_24 n z82 l83 l84 l95 b194 z195 l196 false)
def L62_24:Nat→Int→(List D)→(List D)→(List D)→Bool→Int→(List D)→Bool→Option (((Bool×Int×List D×List D) ⊕ (Bool×Int×List D×List D)))
 | 0,_,_,_,_,_,_,_,_=>none
 | n+1,z82,l83,l84,l95,b194,z195,l196,b198=>
  (if b198=true then needF (0≤z195∧z195.toNat<l196.length) (getN l196 (z195.toNat) fun x199=>ds_t49 x199 fun z200 z201 s202 l203 z204 l205=>letF (IntKind.wrap .i64 (z195+1)) fun z206=>setF l196 (z195.toNat) (.agg [.int .u8 99,.int .i64 z201,.str s202,.list true 6 l203,.int .i64 z204,.list false 1 l205]) fun l207=>L62_23 n z82 l83 l84 l95 b194 z206 l207)else L62_25 n z82 l83 l95 b194 (0:Int) l84)
end
def L62_22:Nat→Int→(List D)→(List D)→(List D)→(List D)→Bool→Option (((Bool×Int×List D×List D) ⊕ (Bool×Int×List D×List D)))
 | 0,_,_,_,_,_,_=>none
 | n+1,z82,l83,l84,l86,l95,b194=>
  L62_23 n z82 l83 l84 l95 b194 (0:Int) l86
mutual
def L62_30:Nat→Int→(List D)→(List D)→Bool→Int→(List D)→Option (((Bool×Int×List D×List D) ⊕ (Bool×Int×List D×List D)))
 | 0,_,_,_,_,_,_=>none
 | n+1,z102,l103,l113,b224,z238,l239=>
  lenF l239 fun z240=>(if z238<z240 then L62_31 n z102 l103 l113 b224 z238 l239 true else L62_31 n z102 l103 l113 b224 z238 l239 false)
def L62_31:Nat→Int→(List D)→(List D)→Bool→Int→(List D)→Bool→Option (((Bool×Int×List D×List D) ⊕ (Bool×Int×List D×List D)))
 | 0,_,_,_,_,_,_,_=>none
 | n+1,z102,l103,l113,b224,z238,l239,b241=>
  (if b241=true then needF (0≤z238∧z238.toNat<l239.length) (getN l239 (z238.toNat) fun x242=>ds_t49 x242 fun z243 z244 s245 l246 z247 l248=>letF (IntKind.wrap .i64 (z238+1)) fun z249=>setF l239 (z238.toNat) (.agg [.int .u8 99,.int .i64 z244,.str s245,.list true 6 l246,.int .i64 z247,.list false 1 l248]) fun l250=>L62_30 n z102 l103 l113 b224 z249 l250)else some (.inl (b224,z102,l103,l113)))
end
mutual
def L62_28:Nat→(List D)→Int→(List D)→(List D)→Bool→Int→(List D)→Option (((Bool×Int×List D×List D) ⊕ (Bool×Int×List D×List D)))
 | 0,_,_,_,_,_,_,_=>none
 | n+1,l17,z102,l103,l113,b224,z225,l226=>
  lenF l226 fun z227=>(if z225<z227 then L62_29 n l17 z102 l103 l113 b224 z225 l226 true else L62_29 n l17 z102 l103 l113 b224 z225 l226 false)
def L62_29:Nat→(List D)→Int→(List D)→(List D)→Bool→Int→(List D)→Bool→Option (((Bool×Int×List D×List D) ⊕ (Bool×Int×List D×List D)))
 | 0,_,_,_,_,_,_,_,_=>none
 | n+1,l17,z102,l103,l113,b224,z225,l226,b228=>
  (if b228=true then needF (0≤z225∧z225.toNat<l226.length) (getN l226 (z225.toNat) fun x229=>ds_t49 x229 fun z230 z231 s232 l233 z234 l235=>letF (IntKind.wrap .i64 (z225+1)) fun z236=>setF l226 (z225.toNat) (.agg [.int .u8 99,.int .i64 z231,.str s232,.list true 6 l233,.int .i64 z234,.list false 1 l235]) fun l237=>L62_28 n l17 z102 l103 l113 b224 z236 l237)else L62_30 n z102 l103 l113 b224 (0:Int) l17)
end
def L62_27:Nat→(List D)→Int→(List D)→(List D)→(List D)→Bool→Option (((Bool×Int×List D×List D) ⊕ (Bool×Int×List D×List D)))
 | 0,_,_,_,_,_,_=>none
 | n+1,l17,z102,l103,l104,l113,b224=>
  L62_28 n l17 z102 l103 l113 b224 (0:Int) l104
mutual
def L62_34:Nat→Int→(List D)→(List D)→Bool→Int→(List D)→Option (((Bool×Int×List D×List D) ⊕ (Bool×Int×List D×List D)))
 | 0,_,_,_,_,_,_=>none
 | n+1,z10,l11,l12,b254,z255,l256=>
  lenF l256 fun z257=>(if z255<z257 then L62_35 n z10 l11 l12 b254 z255 l256 true else L62_35 n z10 l11 l12 b254 z255 l256 false)
def L62_35:Nat→Int→(List D)→(List D)→Bool→Int→(List D)→Bool→Option (((Bool×Int×List D×List D) ⊕ (Bool×Int×List D×List D)))
 | 0,_,_,_,_,_,_,_=>none
 | n+1,z10,l11,l12,b254,z255,l256,b258=>
  (if b258=true then needF (0≤z255∧z255.toNat<l256.length) (getN l256 (z255.toNat) fun x259=>ds_t49 x259 fun z260 z261 s262 l263 z264 l265=>letF (IntKind.wrap .i64 (z255+1)) fun z266=>setF l256 (z255.toNat) (.agg [.int .u8 99,.int .i64 z261,.str s262,.list true 6 l263,.int .i64 z264,.list false 1 l265]) fun l267=>L62_34 n z10 l11 l12 b254 z266 l267)else some (.inl (b254,z10,l11,l12)))
end
def L62_33:Nat→Int→(List D)→(List D)→(List D)→Bool→Option (((Bool×Int×List D×List D) ⊕ (Bool×Int×List D×List D)))
 | 0,_,_,_,_,_=>none
 | n+1,z10,l11,l12,l17,b254=>
  L62_34 n z10 l11 l12 b254 (0:Int) l17
def L62_32:Nat→Int→(List D)→(List D)→(List D)→Bool→Option (((Bool×Int×List D×List D) ⊕ (Bool×Int×List D×List D)))
 | 0,_,_,_,_,_=>none
 | n+1,z10,l11,l12,l17,b254=>
  L62_33 n z10 l11 l12 l17 b254
def L62_7:Nat→Int→Int→Int→ByteArray→(List D)→Int→(List D)→Int→(List D)→(List D)→Int→Int→ByteArray→Int→(List D)→(List D)→Bool→Option (((Bool×Int×List D×List D) ⊕ (Bool×Int×List D×List D)))
 | 0,_,_,_,_,_,_,_,_,_,_,_,_,_,_,_,_,_=>none
 | n+1,z2,z4,z5,s6,l7,z8,l9,z10,l11,l12,z13,z14,s15,z16,l17,l18,b96=>
  (if b96=true then bO9 (F54 n z2 z10 l11) fun z97 z98 s99 z100 z101 z102 l103 l104 l105=>bO8 (F118 n z2 l12) fun z106 z107 s108 l109 z110 l111 z112 l113=>bO1 (F34 n z97 z98 s99 l104 z100 l105 z106 z107 s108 l109 z110 l111) fun b221=>(if b221=true then letF (IntKind.wrap .i64 z101) fun z222=>(if z222=z112 then bO1 (F34 n z13 z14 s15 l17 z16 l18 z4 z5 s6 l7 z8 l9) fun b223=>L62_27 n l17 z102 l103 l104 l113 b223 else L62_27 n l17 z102 l103 l104 l113 false)else L62_27 n l17 z102 l103 l104 l113 false)else bO1 (F34 n (0:Int) (0:Int) ByteArray.empty ([]:List D) (0:Int) ([]:List D) (0:Int) (0:Int) ByteArray.empty ([]:List D) (0:Int) ([]:List D)) fun b251=>(if b251=true then letF (IntKind.wrap .i64 (0:Int)) fun z252=>(if z252=(0:Int)then bO1 (F34 n z13 z14 s15 l17 z16 l18 z4 z5 s6 l7 z8 l9) fun b253=>L62_32 n z10 l11 l12 l17 b253 else L62_32 n z10 l11 l12 l17 false)else L62_32 n z10 l11 l12 l17 false))
def L62_6:Nat→Int→Int→(List D)→Int→Int→ByteArray→(List D)→Int→(List D)→Int→(List D)→(List D)→Int→Int→ByteArray→Int→(List D)→(List D)→Bool→Option (((Bool×Int×List D×List D) ⊕ (Bool×Int×List D×List D)))
 | 0,_,_,_,_,_,_,_,_,_,_,_,_,_,_,_,_,_,_,_=>none
 | n+1,z1,z2,l3,z4,z5,s6,l7,z8,l9,z10,l11,l12,z13,z14,s15,z16,l17,l18,b76=>
  (if b76=true then bO11 (F53x1 n z2 l3 z13 z14 s15 z16 z10 l11 l17 l18) fun z77 z78 s79 z80 z81 z82 l83 l84 l85 l86 l87=>bO8 (F117 n z2 l3 z4 z5 s6 l7 z8 l9 l12) fun z88 z89 s90 l91 z92 l93 z94 l95=>bO1 (F34 n z77 z78 s79 l86 z80 l87 z88 z89 s90 l91 z92 l93) fun b191=>(if b191=true then letF (IntKind.wrap .i64 z81) fun z192=>(if z192=z94 then bO1 (F34 n z13 z14 s15 l84 z16 l85 z4 z5 s6 l7 z8 l9) fun b193=>L62_22 n z82 l83 l84 l86 l95 b193 else L62_22 n z82 l83 l84 l86 l95 false)else L62_22 n z82 l83 l84 l86 l95 false)else (if z1=(6:Int)then L62_7 n z2 z4 z5 s6 l7 z8 l9 z10 l11 l12 z13 z14 s15 z16 l17 l18 true else L62_7 n z2 z4 z5 s6 l7 z8 l9 z10 l11 l12 z13 z14 s15 z16 l17 l18 false))
def L62_5:Nat→Int→Int→(List D)→Int→Int→ByteArray→(List D)→Int→(List D)→Int→(List D)→(List D)→Int→Int→ByteArray→Int→(List D)→(List D)→Bool→Option (((Bool×Int×List D×List D) ⊕ (Bool×Int×List D×List D)))
 | 0,_,_,_,_,_,_,_,_,_,_,_,_,_,_,_,_,_,_,_=>none
 | n+1,z1,z2,l3,z4,z5,s6,l7,z8,l9,z10,l11,l12,z13,z14,s15,z16,l17,l18,b58=>
  (if b58=true then bO9 (F115 n z2 l3 z10 l11) fun z59 z60 s61 z62 z63 z64 l65 l66 l67=>bO8 (F116 n z2 l3 l12) fun z68 z69 s70 l71 z72 l73 z74 l75=>bO1 (F34 n z59 z60 s61 l66 z62 l67 z68 z69 s70 l71 z72 l73) fun b161=>(if b161=true then letF (IntKind.wrap .i64 z63) fun z162=>(if z162=z74 then bO1 (F34 n z13 z14 s15 l17 z16 l18 z4 z5 s6 l7 z8 l9) fun b163=>L62_17 n l17 z64 l65 l66 l75 b163 else L62_17 n l17 z64 l65 l66 l75 false)else L62_17 n l17 z64 l65 l66 l75 false)else (if z1=(5:Int)then L62_6 n z1 z2 l3 z4 z5 s6 l7 z8 l9 z10 l11 l12 z13 z14 s15 z16 l17 l18 true else L62_6 n z1 z2 l3 z4 z5 s6 l7 z8 l9 z10 l11 l12 z13 z14 s15 z16 l17 l18 false))
def L62_4:Nat→Int→Int→(List D)→Int→Int→ByteArray→(List D)→Int→(List D)→Int→(List D)→(List D)→Int→Int→ByteArray→Int→(List D)→(List D)→Bool→Option (((Bool×Int×List D×List D) ⊕ (Bool×Int×List D×List D)))
 | 0,_,_,_,_,_,_,_,_,_,_,_,_,_,_,_,_,_,_,_=>none
 | n+1,z1,z2,l3,z4,z5,s6,l7,z8,l9,z10,l11,l12,z13,z14,s15,z16,l17,l18,b50=>
  (if b50=true then bO5 (F55 n z2 l3 z13 z14 s15 z16 z10 l11 l17 l18) fun z51 z52 l53 l54 l55=>bO2 (F114 n z2 l3 z4 z5 s6 l7 z8 l9 l12) fun z56 l57=>bO1 (F34 n (0:Int) (0:Int) ByteArray.empty ([]:List D) (0:Int) ([]:List D) (0:Int) (0:Int) ByteArray.empty ([]:List D) (0:Int) ([]:List D)) fun b144=>(if b144=true then letF (IntKind.wrap .i64 z51) fun z145=>(if z145=z56 then bO1 (F34 n z13 z14 s15 l54 z16 l55 z4 z5 s6 l7 z8 l9) fun b146=>L62_13 n z52 l53 l54 l57 b146 else L62_13 n z52 l53 l54 l57 false)else L62_13 n z52 l53 l54 l57 false)else (if z1=(4:Int)then L62_5 n z1 z2 l3 z4 z5 s6 l7 z8 l9 z10 l11 l12 z13 z14 s15 z16 l17 l18 true else L62_5 n z1 z2 l3 z4 z5 s6 l7 z8 l9 z10 l11 l12 z13 z14 s15 z16 l17 l18 false))
def L62_3:Nat→Int→Int→(List D)→Int→Int→ByteArray→(List D)→Int→(List D)→Int→(List D)→(List D)→Int→Int→ByteArray→Int→(List D)→(List D)→Bool→Option (((Bool×Int×List D×List D) ⊕ (Bool×Int×List D×List D)))
 | 0,_,_,_,_,_,_,_,_,_,_,_,_,_,_,_,_,_,_,_=>none
 | n+1,z1,z2,l3,z4,z5,s6,l7,z8,l9,z10,l11,l12,z13,z14,s15,z16,l17,l18,b32=>
  (if b32=true then bO9 (F52 n z2 l3 z10 l11) fun z33 z34 s35 z36 z37 z38 l39 l40 l41=>bO8 (F113 n z2 l3 l12) fun z42 z43 s44 l45 z46 l47 z48 l49=>bO1 (F34 n z33 z34 s35 l40 z36 l41 z42 z43 s44 l45 z46 l47) fun b114=>(if b114=true then letF (IntKind.wrap .i64 z37) fun z115=>(if z115=z48 then bO1 (F34 n z13 z14 s15 l17 z16 l18 z4 z5 s6 l7 z8 l9) fun b116=>L62_8 n l17 z38 l39 l40 l49 b116 else L62_8 n l17 z38 l39 l40 l49 false)else L62_8 n l17 z38 l39 l40 l49 false)else (if z1=(3:Int)then L62_4 n z1 z2 l3 z4 z5 s6 l7 z8 l9 z10 l11 l12 z13 z14 s15 z16 l17 l18 true else L62_4 n z1 z2 l3 z4 z5 s6 l7 z8 l9 z10 l11 l12 z13 z14 s15 z16 l17 l18 false))
def L62_2:Nat→Int→Int→(List D)→Int→Int→ByteArray→(List D)→Int→(List D)→Int→(List D)→(List D)→Int→Int→ByteArray→Int→(List D)→(List D)→Bool→Option (((Bool×Int×List D×List D) ⊕ (Bool×Int×List D×List D)))
 | 0,_,_,_,_,_,_,_,_,_,_,_,_,_,_,_,_,_,_,_=>none
 | n+1,z1,z2,l3,z4,z5,s6,l7,z8,l9,z10,l11,l12,z13,z14,s15,z16,l17,l18,b20=>
  (if b20=true then bO4 (F51 n z13 z14 s15 l17 z16 l18 z10 l11) fun z21 z22 z23 l24=>bS (F112 n z4 z5 s6 l7 z8 l9 l12) (fun l25=>(if z21=(0:Int)then (if z22=(4:Int)then bO1 (F34 n z13 z14 s15 l17 z16 l18 z4 z5 s6 l7 z8 l9) fun b30=>some (.inl (b30,z23,l24,l25))else some (.inl (false,z23,l24,l25)))else some (.inl (false,z23,l24,l25)))) (fun p29=>bO2 (some p29) fun z26 l27=>(if z21=z26 then (if z22=(0:Int)then bO1 (F34 n z13 z14 s15 l17 z16 l18 z4 z5 s6 l7 z8 l9) fun b31=>some (.inr (b31,z23,l24,l27))else some (.inr (false,z23,l24,l27)))else some (.inr (false,z23,l24,l27))))else (if z1=(2:Int)then L62_3 n z1 z2 l3 z4 z5 s6 l7 z8 l9 z10 l11 l12 z13 z14 s15 z16 l17 l18 true else L62_3 n z1 z2 l3 z4 z5 s6 l7 z8 l9 z10 l11 l12 z13 z14 s15 z16 l17 l18 false))
def L62_1:Nat→Int→Int→(List D)→Int→Int→ByteArray→(List D)→Int→(List D)→Int→(List D)→(List D)→Int→Int→ByteArray→Int→(List D)→(List D)→Bool→Option (((Bool×Int×List D×List D) ⊕ (Bool×Int×List D×List D)))
 | 0,_,_,_,_,_,_,_,_,_,_,_,_,_,_,_,_,_,_,_=>none
 | n+1,z1,z2,l3,z4,z5,s6,l7,z8,l9,z10,l11,l12,z13,z14,s15,z16,l17,l18,b19=>
  (if b19=true then L62_2 n z1 z2 l3 z4 z5 s6 l7 z8 l9 z10 l11 l12 z13 z14 s15 z16 l17 l18 true else (if z1=(1:Int)then L62_2 n z1 z2 l3 z4 z5 s6 l7 z8 l9 z10 l11 l12 z13 z14 s15 z16 l17 l18 true else L62_2 n z1 z2 l3 z4 z5 s6 l7 z8 l9 z10 l11 l12 z13 z14 s15 z16 l17 l18 false))
def F62 (n:Nat) (z1:Int) (z2:Int) (l3:List D) (z4:Int) (z5:Int) (s6:ByteArray) (l7:List D) (z8:Int) (l9:List D) (z10:Int) (l11:List D) (l12:List D):Option (((Bool×Int×List D×List D) ⊕ (Bool×Int×List D×List D))):=
 bO6 (F29 n z4 z5 s6 l7 z8 l9) fun z13 z14 s15 z16 l17 l18=>(if z1=(0:Int)then L62_1 n z1 z2 l3 z4 z5 s6 l7 z8 l9 z10 l11 l12 z13 z14 s15 z16 l17 l18 true else L62_1 n z1 z2 l3 z4 z5 s6 l7 z8 l9 z10 l11 l12 z13 z14 s15 z16 l17 l18 false)
theorem T62 (n:Nat):∀⦃z1:Int⦄ ⦃z2:Int⦄ ⦃l3:List D⦄ ⦃z4:Int⦄ ⦃z5:Int⦄ ⦃s6:ByteArray⦄ ⦃l7:List D⦄ ⦃z8:Int⦄ ⦃l9:List D⦄ ⦃z10:Int⦄ ⦃l11:List D⦄ ⦃l12:List D⦄ ⦃r:((Bool×Int×List D×List D) ⊕ (Bool×Int×List D×List D))⦄,F62 n z1 z2 l3 z4 z5 s6 l7 z8 l9 z10 l11 l12=some r→∀Q:AV→List AObj→List AObj→Prop,(match r with | .inl (r1,r2,r3,r4)=>Q (.v (.d (.bool r1))) [.cells [.ow (.ext 1),.d (.int .i64 r2)],.tree (.fmap true) true 8 r3 none,.cells [.ow (.ext 3)],.tree .flat true 7 r4 none] [] | .inr (r1,r2,r3,r4)=>Q (.v (.d (.bool r1))) [.cells [.ow (.ext 1),.d (.int .i64 r2)],.tree (.fmap true) true 8 r3 none,.cells [.ow (.loc 0)],.gone] [.tree .flat true 7 r4 none])→
    TripK Try.prog inv 62 [.c (.ptr (.ext 0) 0),.c (.ptr (.ext 2) 0),.d (.agg [.int .i64 z1,.int .i64 z2,.list false 1 l3,.int .u8 z4,.int .i64 z5,.str s6,.list true 6 l7,.int .i64 z8,.list false 1 l9])] [.cells [.ow (.ext 1),.d (.int .i64 z10)],.tree (.fmap true) true 8 l11 none,.cells [.ow (.ext 3)],.tree .flat true 7 l12 none] Q:=by
 intro z1 z2 l3 z4 z5 s6 l7 z8 l9 z10 l11 l12 r h Q hQ
 unfold F62 at h
 refine TripK.of tab_ok tab_one fol Try.func62 rfl (by kernel_rfl) rfl rfl rfl (fun M hM hI=>?_)
 try cbv
 refine seq_go ?_
 try cbv
 refine seq_go ?_
 try cbv
 refine seq_go ?_
 try cbv
 refine seq_go ?_
 try cbv
 replace h:=bO6_inv h
 obtain⟨z13,z14,s15,z16,l17,l18,hr,h⟩:=h
 refine call_go rfl rfl ?_
 try cbv
 refine call_with hM hI [] (T29 _ hr) rfl (by simp) trivial trivial (by simp) ?_
 clear hr
 try cbv
 refine seq_go ?_
 try cbv
 refine seq_go ?_
 try cbv
 refine seq_join (T:=Nat×Bool) (fun t=>⟨[(0,.v (.c (.ptr (.ext 0) 0))),(1,.v (.c (.ptr (.ext 2) 0))),(5,.v (.c (.ptr (.loc 0) 0))),(6,.v (.d (.bool false))),(7,.v (.c (.ptr (.loc 64) 0))),(8,.v (.c (.ptr (.loc 96) 0))),(9,.v (.d (.int .u8 0))),(10,.v (.d (.int .i64 0))),(11,.v (.c (.ptr (.loc 288) 0))),(23,.v (.d (.int .i64 z1))),(24,.v (.d (.bool t.2)))],[(.ext 0,.cells [.ow (.ext 1),.d (.int .i64 z10)]),(.ext 1,.tree (.fmap true) true 8 l11 none),(.ext 2,.cells [.ow (.ext 3)]),(.ext 3,.tree .flat true 7 l12 none),(.loc 0,.cells [.d (.int .i64 z1),.d (.int .i64 z2),.d (.list false 1 l3),.d (.int .u8 z4),.d (.int .i64 z5),.d (.str s6),.d (.list true 6 l7),.d (.int .i64 z8),.d (.list false 1 l9)]),(.loc 64,.cells [.d (.int .u8 0),.d (.int .i64 0),.d (.str ByteArray.empty),.nils true 6,.d (.int .i64 0),.nils false 1]),(.loc 96,.cells [.d (.int .u8 0),.d (.int .i64 0),.d (.str ByteArray.empty),.nils true 6,.d (.int .i64 0),.nils false 1]),(.loc 288,.cells [.d (.int .u8 z13),.d (.int .i64 z14),.d (.str s15),.ow (.loc 256),.d (.int .i64 z16),.ow (.loc 257)]),(.loc 256,.tree .row true 6 l17 none),(.loc 257,.tree .row false 1 l18 none)],544⟩) (fun t=>t.1≤n∧L62_2 t.1 z1 z2 l3 z4 z5 s6 l7 z8 l9 z10 l11 l12 z13 z14 s15 z16 l17 l18 t.2=some r) ?_ ?_
 ·try cbv
  refine seq_join (T:=Nat×Bool) (fun t=>⟨[(0,.v (.c (.ptr (.ext 0) 0))),(1,.v (.c (.ptr (.ext 2) 0))),(5,.v (.c (.ptr (.loc 0) 0))),(6,.v (.d (.bool false))),(7,.v (.c (.ptr (.loc 64) 0))),(8,.v (.c (.ptr (.loc 96) 0))),(9,.v (.d (.int .u8 0))),(10,.v (.d (.int .i64 0))),(11,.v (.c (.ptr (.loc 288) 0))),(23,.v (.d (.int .i64 z1))),(24,.v (.d (.bool t.2)))],[(.ext 0,.cells [.ow (.ext 1),.d (.int .i64 z10)]),(.ext 1,.tree (.fmap true) true 8 l11 none),(.ext 2,.cells [.ow (.ext 3)]),(.ext 3,.tree .flat true 7 l12 none),(.loc 0,.cells [.d (.int .i64 z1),.d (.int .i64 z2),.d (.list false 1 l3),.d (.int .u8 z4),.d (.int .i64 z5),.d (.str s6),.d (.list true 6 l7),.d (.int .i64 z8),.d (.list false 1 l9)]),(.loc 64,.cells [.d (.int .u8 0),.d (.int .i64 0),.d (.str ByteArray.empty),.nils true 6,.d (.int .i64 0),.nils false 1]),(.loc 96,.cells [.d (.int .u8 0),.d (.int .i64 0),.d (.str ByteArray.empty),.nils true 6,.d (.int .i64 0),.nils false 1]),(.loc 288,.cells [.d (.int .u8 z13),.d (.int .i64 z14),.d (.str s15),.ow (.loc 256),.d (.int .i64 z16),.ow (.loc 257)]),(.loc 256,.tree .row true 6 l17 none),(.loc 257,.tree .row false 1 l18 none)],480⟩) (fun t=>t.1≤n∧L62_1 t.1 z1 z2 l3 z4 z5 s6 l7 z8 l9 z10 l11 l12 z13 z14 s15 z16 l17 l18 t.2=some r) ?_ ?_
  ·try cbv
   refine splitI (fun e=>?_) (fun e=>?_)
   ·replace h:=ite_t e h
    clear e
    try cbv
    exact join_next (n,true) [0,1,5,6,7,8,9,10,11,23,24] [.ext 0,.ext 1,.ext 2,.ext 3,.loc 0,.loc 64,.loc 96,.loc 288,.loc 256,.loc 257] 480 ⟨by omega,h⟩ (by cbv)
   replace h:=ite_f e h
   clear e
   try cbv
   exact join_next (n,false) [0,1,5,6,7,8,9,10,11,23,24] [.ext 0,.ext 1,.ext 2,.ext 3,.loc 0,.loc 64,.loc 96,.loc 288,.loc 256,.loc 257] 480 ⟨by omega,h⟩ (by cbv)
  clear h
  rintro⟨m1,b19⟩ ⟨hm1,h⟩
  replace hm1:m1≤n:=hm1
  obtain _ | m1:=m1
  ·replace h:L62_1 0 z1 z2 l3 z4 z5 s6 l7 z8 l9 z10 l11 l12 z13 z14 s15 z16 l17 l18 b19=some r:=h
   rw[L62_1]at h
   cases h
  replace h:L62_1 (m1+1) z1 z2 l3 z4 z5 s6 l7 z8 l9 z10 l11 l12 z13 z14 s15 z16 l17 l18 b19=some r:=h
  rw[L62_1]at h
  try cbv
  cases b19
  ·replace h:=ite_f Bool.false_ne_true h
   try cbv
   refine splitI (fun e=>?_) (fun e=>?_)
   ·replace h:=ite_t e h
    clear e
    try cbv
    exact join_next (m1,true) [0,1,5,6,7,8,9,10,11,23,24] [.ext 0,.ext 1,.ext 2,.ext 3,.loc 0,.loc 64,.loc 96,.loc 288,.loc 256,.loc 257] 544 ⟨by omega,h⟩ (by cbv)
   replace h:=ite_f e h
   clear e
   try cbv
   exact join_next (m1,false) [0,1,5,6,7,8,9,10,11,23,24] [.ext 0,.ext 1,.ext 2,.ext 3,.loc 0,.loc 64,.loc 96,.loc 288,.loc 256,.loc 257] 544 ⟨by omega,h⟩ (by cbv)
  replace h:=ite_t rfl h
  try cbv
  exact join_next (m1,true) [0,1,5,6,7,8,9,10,11,23,24] [.ext 0,.ext 1,.ext 2,.ext 3,.loc 0,.loc 64,.loc 96,.loc 288,.loc 256,.loc 257] 544 ⟨by omega,h⟩ (by cbv)
 clear h
 rintro⟨m2,b20⟩ ⟨hm2,h⟩
 replace hm2:m2≤n:=hm2
 obtain _ | m2:=m2
 ·replace h:L62_2 0 z1 z2 l3 z4 z5 s6 l7 z8 l9 z10 l11 l12 z13 z14 s15 z16 l17 l18 b20=some r:=h
  rw[L62_2]at h
  cases h
 replace h:L62_2 (m2+1) z1 z2 l3 z4 z5 s6 l7 z8 l9 z10 l11 l12 z13 z14 s15 z16 l17 l18 b20=some r:=h
 rw[L62_2]at h
 try cbv
 cases b20
 rotate_left
 ·replace h:=ite_t rfl h
  try cbv
  refine seq_go ?_
  try cbv
  replace h:=bO4_inv h
  obtain⟨z21,z22,z23,l24,hr,h⟩:=h
  refine call_gs [.freeze (.loc 256),.freeze (.loc 257)] rfl rfl ?_
  try cbv
  first | refine⟨(rfl:(_:Nat)=_),?_⟩ | refine⟨True.intro,?_⟩ | skip
  refine callfv_with hM hI [.ext 0,.ext 1] rfl rfl (T51 _ hr) rfl (by simp) ⟨rfl,⟨rfl,trivial⟩⟩ ⟨trivial,⟨trivial,trivial⟩⟩ (by simp) ?_
  clear hr
  try cbv
  refine seq_go ?_
  try cbv
  replace h:=bS_inv h
  rcases h with⟨l25,hr,h⟩ | ⟨p29,hr,h⟩
  ·refine call_go rfl rfl ?_
   try cbv
   refine call_with hM hI [.ext 2,.ext 3] (T112 _ hr (fun r p n=>r= .t [.d (.int .i64 0),.d (.int .i64 4)]∧p=[.cells [.ow (.ext 1)],.tree .flat true 7 l25 none]∧n=[]) ⟨rfl,rfl,rfl⟩:Trip _ _ _ _ _ (.t [.d (.int .i64 0),.d (.int .i64 4)]) [.cells [.ow (.ext 1)],.tree .flat true 7 l25 none] []) rfl (by simp) ⟨rfl,⟨rfl,trivial⟩⟩ ⟨trivial,⟨trivial,trivial⟩⟩ (by simp) ?_
   clear hr
   try cbv
   refine seq_go ?_
   try cbv
   refine splitI (fun e=>?_) (fun e=>?_)
   rotate_left
   ·replace h:=ite_f e h
    clear e
    try cbv
    obtain rfl:=Option.some.inj h
    refine finQ_go hQ ?_
    try cbv
    exact⟨[],rfl,rfl,⟨rfl,⟨rfl,⟨rfl,⟨rfl,trivial⟩⟩⟩⟩,trivial,trivial⟩
   replace h:=ite_t e h
   clear e
   try cbv
   refine splitI (fun e=>?_) (fun e=>?_)
   ·replace h:=ite_t e h
    clear e
    try cbv
    replace h:=bO1_inv h
    obtain⟨b30,hr,h⟩:=h
    refine call_go rfl rfl ?_
    try cbv
    refine call_pure hM hI (T34 _ hr) rfl ?_
    clear hr
    try cbv
    obtain rfl:=Option.some.inj h
    refine finQ_go hQ ?_
    try cbv
    exact⟨[],rfl,rfl,⟨rfl,⟨rfl,⟨rfl,⟨rfl,trivial⟩⟩⟩⟩,trivial,trivial⟩
   replace h:=ite_f e h
   clear e
   try cbv
   obtain rfl:=Option.some.inj h
   refine finQ_go hQ ?_
   try cbv
   exact⟨[],rfl,rfl,⟨rfl,⟨rfl,⟨rfl,⟨rfl,trivial⟩⟩⟩⟩,trivial,trivial⟩
  replace h:=bO2_inv h
  obtain⟨z26,l27,hp,h⟩:=h
  obtain rfl:=Option.some.inj hp
  clear hp
  refine call_go rfl rfl ?_
  try cbv
  refine call_with hM hI [.ext 2,.ext 3] (T112 _ hr (fun r p n=>r= .t [.d (.int .i64 z26),.d (.int .i64 0)]∧p=[.cells [.ow (.loc 0)],.gone]∧n=[.tree .flat true 7 l27 none]) ⟨rfl,rfl,rfl⟩:Trip _ _ _ _ _ (.t [.d (.int .i64 z26),.d (.int .i64 0)]) [.cells [.ow (.loc 0)],.gone] [.tree .flat true 7 l27 none]) rfl (by simp) ⟨rfl,⟨rfl,trivial⟩⟩ ⟨trivial,⟨trivial,trivial⟩⟩ (by simp) ?_
  clear hr
  try cbv
  refine seq_go ?_
  try cbv
  refine splitI (fun e=>?_) (fun e=>?_)
  rotate_left
  ·replace h:=ite_f e h
   clear e
   try cbv
   obtain rfl:=Option.some.inj h
   refine finQ_go hQ ?_
   try cbv
   exact⟨[.loc 896],rfl,rfl,⟨rfl,⟨rfl,⟨rfl,trivial⟩⟩⟩,⟨rfl,trivial⟩,trivial⟩
  replace h:=ite_t e h
  clear e
  try cbv
  refine splitI (fun e=>?_) (fun e=>?_)
  ·replace h:=ite_t e h
   clear e
   try cbv
   replace h:=bO1_inv h
   obtain⟨b31,hr,h⟩:=h
   refine call_go rfl rfl ?_
   try cbv
   refine call_pure hM hI (T34 _ hr) rfl ?_
   clear hr
   try cbv
   obtain rfl:=Option.some.inj h
   refine finQ_go hQ ?_
   try cbv
   exact⟨[.loc 896],rfl,rfl,⟨rfl,⟨rfl,⟨rfl,trivial⟩⟩⟩,⟨rfl,trivial⟩,trivial⟩
  replace h:=ite_f e h
  clear e
  try cbv
  obtain rfl:=Option.some.inj h
  refine finQ_go hQ ?_
  try cbv
  exact⟨[.loc 896],rfl,rfl,⟨rfl,⟨rfl,⟨rfl,trivial⟩⟩⟩,⟨rfl,trivial⟩,trivial⟩
 replace h:=ite_f Bool.false_ne_true h
 try cbv
 refine seq_join (T:=Nat×Bool) (fun t=>⟨[(0,.v (.c (.ptr (.ext 0) 0))),(1,.v (.c (.ptr (.ext 2) 0))),(5,.v (.c (.ptr (.loc 0) 0))),(6,.v (.d (.bool false))),(7,.v (.c (.ptr (.loc 64) 0))),(8,.v (.c (.ptr (.loc 96) 0))),(9,.v (.d (.int .u8 0))),(10,.v (.d (.int .i64 0))),(11,.v (.c (.ptr (.loc 288) 0))),(23,.v (.d (.int .i64 z1))),(54,.v (.d (.bool t.2)))],[(.ext 0,.cells [.ow (.ext 1),.d (.int .i64 z10)]),(.ext 1,.tree (.fmap true) true 8 l11 none),(.ext 2,.cells [.ow (.ext 3)]),(.ext 3,.tree .flat true 7 l12 none),(.loc 0,.cells [.d (.int .i64 z1),.d (.int .i64 z2),.d (.list false 1 l3),.d (.int .u8 z4),.d (.int .i64 z5),.d (.str s6),.d (.list true 6 l7),.d (.int .i64 z8),.d (.list false 1 l9)]),(.loc 64,.cells [.d (.int .u8 0),.d (.int .i64 0),.d (.str ByteArray.empty),.nils true 6,.d (.int .i64 0),.nils false 1]),(.loc 96,.cells [.d (.int .u8 0),.d (.int .i64 0),.d (.str ByteArray.empty),.nils true 6,.d (.int .i64 0),.nils false 1]),(.loc 288,.cells [.d (.int .u8 z13),.d (.int .i64 z14),.d (.str s15),.ow (.loc 256),.d (.int .i64 z16),.ow (.loc 257)]),(.loc 256,.tree .row true 6 l17 none),(.loc 257,.tree .row false 1 l18 none)],608⟩) (fun t=>t.1≤m2∧L62_3 t.1 z1 z2 l3 z4 z5 s6 l7 z8 l9 z10 l11 l12 z13 z14 s15 z16 l17 l18 t.2=some r) ?_ ?_
 ·try cbv
  refine splitI (fun e=>?_) (fun e=>?_)
  ·replace h:=ite_t e h
   clear e
   try cbv
   exact join_next (m2,true) [0,1,5,6,7,8,9,10,11,23,54] [.ext 0,.ext 1,.ext 2,.ext 3,.loc 0,.loc 64,.loc 96,.loc 288,.loc 256,.loc 257] 608 ⟨by omega,h⟩ (by cbv)
  replace h:=ite_f e h
  clear e
  try cbv
  exact join_next (m2,false) [0,1,5,6,7,8,9,10,11,23,54] [.ext 0,.ext 1,.ext 2,.ext 3,.loc 0,.loc 64,.loc 96,.loc 288,.loc 256,.loc 257] 608 ⟨by omega,h⟩ (by cbv)
 clear h
 rintro⟨m3,b32⟩ ⟨hm3,h⟩
 replace hm3:m3≤m2:=hm3
 obtain _ | m3:=m3
 ·replace h:L62_3 0 z1 z2 l3 z4 z5 s6 l7 z8 l9 z10 l11 l12 z13 z14 s15 z16 l17 l18 b32=some r:=h
  rw[L62_3]at h
  cases h
 replace h:L62_3 (m3+1) z1 z2 l3 z4 z5 s6 l7 z8 l9 z10 l11 l12 z13 z14 s15 z16 l17 l18 b32=some r:=h
 rw[L62_3]at h
 try cbv
 cases b32
 rotate_left
 ·replace h:=ite_t rfl h
  try cbv
  refine seq_go ?_
  try cbv
  replace h:=bO9_inv h
  obtain⟨z33,z34,s35,z36,z37,z38,l39,l40,l41,hr,h⟩:=h
  refine call_go rfl rfl ?_
  try cbv
  refine call_with hM hI [.ext 0,.ext 1] (T52 _ hr) rfl (by simp) ⟨rfl,⟨rfl,trivial⟩⟩ ⟨trivial,⟨trivial,trivial⟩⟩ (by simp) ?_
  clear hr
  try cbv
  replace h:=bO8_inv h
  obtain⟨z42,z43,s44,l45,z46,l47,z48,l49,hr,h⟩:=h
  refine call_go rfl rfl ?_
  try cbv
  refine call_with hM hI [.ext 2,.ext 3] (T113 _ hr) rfl (by simp) ⟨rfl,⟨rfl,trivial⟩⟩ ⟨trivial,⟨trivial,trivial⟩⟩ (by simp) ?_
  clear hr
  try cbv
  refine seq_join (T:=Nat×Bool) (fun t=>⟨[(6,.v (.d (.bool false))),(7,.v (.c (.ptr (.loc 64) 0))),(11,.v (.c (.ptr (.loc 288) 0))),(16,.v (.d (.bool t.2)))],[(.ext 0,.cells [.ow (.ext 1),.d (.int .i64 z38)]),(.ext 1,.tree (.fmap true) true 8 l39 none),(.ext 2,.cells [.ow (.ext 3)]),(.ext 3,.tree .flat true 7 l49 none),(.loc 64,.cells [.d (.int .u8 z33),.d (.int .i64 z34),.d (.str s35),.ow (.loc 768),.d (.int .i64 z36),.ow (.loc 769)]),(.loc 768,.tree .row true 6 l40 none),(.loc 769,.tree .row false 1 l41 none),(.loc 288,.cells [.d (.int .u8 z13),.d (.int .i64 z14),.d (.str s15),.ow (.loc 256),.d (.int .i64 z16),.ow (.loc 257)]),(.loc 256,.tree .row true 6 l17 none),(.loc 257,.tree .row false 1 l18 none)],1824⟩) (fun t=>t.1≤m3∧L62_8 t.1 l17 z38 l39 l40 l49 t.2=some r) ?_ ?_
  ·try cbv
   replace h:=bO1_inv h
   obtain⟨b114,hr,h⟩:=h
   refine call_go rfl rfl ?_
   try cbv
   refine call_with hM hI [.loc 768,.loc 769] (Trip.lend (targs':=[.agg [.d (.int .u8 z33),.d (.int .i64 z34),.d (.str s35),.ow (.ext 0),.d (.int .i64 z36),.ow (.ext 1)],.d (.agg [.int .u8 z42,.int .i64 z43,.str s44,.list true 6 l45,.int .i64 z46,.list false 1 l47])]) (T34 _ hr) [.tree .row true 6 l40 none,.tree .row false 1 l41 none] rfl rfl rfl rfl rfl rfl) rfl (by simp) ⟨rfl,⟨rfl,trivial⟩⟩ ⟨trivial,⟨trivial,trivial⟩⟩ (by simp) ?_
   clear hr
   try cbv
   cases b114
   ·replace h:=ite_f Bool.false_ne_true h
    try cbv
    exact join_next (m3,false) [6,7,11,16] [.ext 0,.ext 1,.ext 2,.ext 3,.loc 64,.loc 768,.loc 769,.loc 288,.loc 256,.loc 257] 1824 ⟨by omega,h⟩ (by cbv)
   replace h:=ite_t rfl h
   try cbv
   replace h:=letF_inv h
   obtain⟨z115,hz,h⟩:=h
   refine⟨z115,hz,?_⟩
   clear hz
   try cbv
   refine splitI (fun e=>?_) (fun e=>?_)
   ·replace h:=ite_t e h
    clear e
    try cbv
    replace h:=bO1_inv h
    obtain⟨b116,hr,h⟩:=h
    refine call_go rfl rfl ?_
    try cbv
    refine call_with hM hI [.loc 256,.loc 257] (Trip.lend (targs':=[.agg [.d (.int .u8 z13),.d (.int .i64 z14),.d (.str s15),.ow (.ext 0),.d (.int .i64 z16),.ow (.ext 1)],.d (.agg [.int .u8 z4,.int .i64 z5,.str s6,.list true 6 l7,.int .i64 z8,.list false 1 l9])]) (T34 _ hr) [.tree .row true 6 l17 none,.tree .row false 1 l18 none] rfl rfl rfl rfl rfl rfl) rfl (by simp) ⟨rfl,⟨rfl,trivial⟩⟩ ⟨trivial,⟨trivial,trivial⟩⟩ (by simp) ?_
    clear hr
    try cbv
    exact join_next (m3,b116) [6,7,11,16] [.ext 0,.ext 1,.ext 2,.ext 3,.loc 64,.loc 768,.loc 769,.loc 288,.loc 256,.loc 257] 1824 ⟨by omega,h⟩ (by cbv)
   replace h:=ite_f e h
   clear e
   try cbv
   exact join_next (m3,false) [6,7,11,16] [.ext 0,.ext 1,.ext 2,.ext 3,.loc 64,.loc 768,.loc 769,.loc 288,.loc 256,.loc 257] 1824 ⟨by omega,h⟩ (by cbv)
  clear h
  rintro⟨m8,b117⟩ ⟨hm8,h⟩
  replace hm8:m8≤m3:=hm8
  obtain _ | m8:=m8
  ·replace h:L62_8 0 l17 z38 l39 l40 l49 b117=some r:=h
   rw[L62_8]at h
   cases h
  replace h:L62_8 (m8+1) l17 z38 l39 l40 l49 b117=some r:=h
  rw[L62_8]at h
  try cbv
  refine seq_go ?_
  try cbv
  refine seq_go ?_
  try cbv
  refine loop_invG (T:=Nat×Int×List D) [] [] [6,7,11,16,17] [.ext 0,.ext 1,.ext 2,.ext 3,.loc 64,.loc 768,.loc 769,.loc 288,.loc 256,.loc 257] 1856 (fun t=>⟨[(6,.v (.d (.bool false))),(7,.v (.c (.ptr (.loc 64) 0))),(11,.v (.c (.ptr (.loc 288) 0))),(16,.v (.d (.bool b117))),(17,.v (.d (.int .i64 t.2.1)))],[(.ext 0,.cells [.ow (.ext 1),.d (.int .i64 z38)]),(.ext 1,.tree (.fmap true) true 8 l39 none),(.ext 2,.cells [.ow (.ext 3)]),(.ext 3,.tree .flat true 7 l49 none),(.loc 64,.cells [.d (.int .u8 z33),.d (.int .i64 z34),.d (.str s35),.ow (.loc 768),.d (.int .i64 z36),.ow (.loc 769)]),(.loc 768,.tree .row true 6 t.2.2 none),(.loc 769,.tree .row false 1 l41 none),(.loc 288,.cells [.d (.int .u8 z13),.d (.int .i64 z14),.d (.str s15),.ow (.loc 256),.d (.int .i64 z16),.ow (.loc 257)]),(.loc 256,.tree .row true 6 l17 none),(.loc 257,.tree .row false 1 l18 none)],1856⟩)
    (fun t=>t.1≤m8∧L62_9 t.1 l17 z38 l39 l49 b117 t.2.1 t.2.2=some r) (fun t=>t.1) (m8,((0:Int),l40)) ⟨Nat.le_refl _,h⟩ (by cbv) ?_
  clear h
  rintro⟨m9,z118,l119⟩ ⟨hm9,h⟩
  replace hm9:m9≤m8:=hm9
  obtain _ | m9:=m9
  ·replace h:L62_9 0 l17 z38 l39 l49 b117 z118 l119=some r:=h
   rw[L62_9]at h
   cases h
  replace h:L62_9 (m9+1) l17 z38 l39 l49 b117 z118 l119=some r:=h
  rw[L62_9]at h
  try cbv
  refine seq_go ?_
  try cbv
  refine seq_join (T:=Nat×Bool) (fun t=>⟨[(6,.v (.d (.bool false))),(7,.v (.c (.ptr (.loc 64) 0))),(11,.v (.c (.ptr (.loc 288) 0))),(16,.v (.d (.bool b117))),(17,.v (.d (.int .i64 z118))),(169,.v (.d (.bool t.2)))],[(.ext 0,.cells [.ow (.ext 1),.d (.int .i64 z38)]),(.ext 1,.tree (.fmap true) true 8 l39 none),(.ext 2,.cells [.ow (.ext 3)]),(.ext 3,.tree .flat true 7 l49 none),(.loc 64,.cells [.d (.int .u8 z33),.d (.int .i64 z34),.d (.str s35),.ow (.loc 768),.d (.int .i64 z36),.ow (.loc 769)]),(.loc 768,.tree .row true 6 l119 none),(.loc 769,.tree .row false 1 l41 none),(.loc 288,.cells [.d (.int .u8 z13),.d (.int .i64 z14),.d (.str s15),.ow (.loc 256),.d (.int .i64 z16),.ow (.loc 257)]),(.loc 256,.tree .row true 6 l17 none),(.loc 257,.tree .row false 1 l18 none)],2016⟩) (fun t=>t.1≤m9∧L62_10 t.1 l17 z38 l39 l49 b117 z118 l119 t.2=some r) ?_ ?_
  ·try cbv
   replace h:=lenF_inv M h
   obtain⟨z120,hz,h⟩:=h
   refine⟨false,?_⟩
   try cbv
   refine⟨z120,hz,?_⟩
   clear hz
   try cbv
   refine splitL (fun e=>?_) (fun e=>?_)
   ·replace h:=ite_t e h
    clear e
    try cbv
    exact join_next (m9,true) [6,7,11,16,17,169] [.ext 0,.ext 1,.ext 2,.ext 3,.loc 64,.loc 768,.loc 769,.loc 288,.loc 256,.loc 257] 2016 ⟨by omega,h⟩ (by cbv)
   replace h:=ite_f (Int.not_lt.2 e) h
   clear e
   try cbv
   exact join_next (m9,false) [6,7,11,16,17,169] [.ext 0,.ext 1,.ext 2,.ext 3,.loc 64,.loc 768,.loc 769,.loc 288,.loc 256,.loc 257] 2016 ⟨by omega,h⟩ (by cbv)
  clear h
  rintro⟨m10,b121⟩ ⟨hm10,h⟩
  replace hm10:m10≤m9:=hm10
  obtain _ | m10:=m10
  ·replace h:L62_10 0 l17 z38 l39 l49 b117 z118 l119 b121=some r:=h
   rw[L62_10]at h
   cases h
  replace h:L62_10 (m10+1) l17 z38 l39 l49 b117 z118 l119 b121=some r:=h
  rw[L62_10]at h
  try cbv
  cases b121
  rotate_left
  ·replace h:=ite_t rfl h
   try cbv
   refine seq_go ?_
   try cbv
   replace h:=needF_inv h
   obtain⟨hn,h⟩:=h
   refine⟨(M.lock_iff _).2 hn,?_⟩
   clear hn
   try cbv
   refine⟨[],?_⟩
   try cbv
   replace h:=getN_inv h
   obtain⟨x122,hx,h⟩:=h
   replace h:=ds_t49_inv h
   obtain⟨z123,z124,s125,l126,z127,l128,rfl,h⟩:=h
   refine⟨_,hx,?_⟩
   clear hx
   try cbv
   replace h:=letF_inv h
   obtain⟨z129,hz,h⟩:=h
   refine⟨z129,hz,?_⟩
   clear hz
   try cbv
   replace h:=setF_inv h
   obtain⟨l130,hl130,h⟩:=h
   refine loop_nextG (m10,(z129,l130)) [.close (.loc 768)] [] [6,7,11,16,17] [.ext 0,.ext 1,.ext 2,.ext 3,.loc 64,.loc 768,.loc 769,.loc 288,.loc 256,.loc 257] 1856 ⟨by omega,h⟩ (Nat.lt_succ_of_le (by omega)) ?_
   try cbv
   refine⟨l130,hl130,?_⟩
   clear hl130
   try cbv
   first | done | exact rfl | cbv
  replace h:=ite_f Bool.false_ne_true h
  try cbv
  refine seq_go ?_
  try cbv
  refine seq_go ?_
  try cbv
  refine loop_invG (T:=Nat×Int×List D) [] [] [6,11,16,18] [.ext 0,.ext 1,.ext 2,.ext 3,.loc 288,.loc 256,.loc 257] 2048 (fun t=>⟨[(6,.v (.d (.bool false))),(11,.v (.c (.ptr (.loc 288) 0))),(16,.v (.d (.bool b117))),(18,.v (.d (.int .i64 t.2.1)))],[(.ext 0,.cells [.ow (.ext 1),.d (.int .i64 z38)]),(.ext 1,.tree (.fmap true) true 8 l39 none),(.ext 2,.cells [.ow (.ext 3)]),(.ext 3,.tree .flat true 7 l49 none),(.loc 288,.cells [.d (.int .u8 z13),.d (.int .i64 z14),.d (.str s15),.ow (.loc 256),.d (.int .i64 z16),.ow (.loc 257)]),(.loc 256,.tree .row true 6 t.2.2 none),(.loc 257,.tree .row false 1 l18 none)],2048⟩)
    (fun t=>t.1≤m10∧L62_11 t.1 z38 l39 l49 b117 t.2.1 t.2.2=some r) (fun t=>t.1) (m10,((0:Int),l17)) ⟨Nat.le_refl _,h⟩ (by cbv) ?_
  clear h
  rintro⟨m11,z131,l132⟩ ⟨hm11,h⟩
  replace hm11:m11≤m10:=hm11
  obtain _ | m11:=m11
  ·replace h:L62_11 0 z38 l39 l49 b117 z131 l132=some r:=h
   rw[L62_11]at h
   cases h
  replace h:L62_11 (m11+1) z38 l39 l49 b117 z131 l132=some r:=h
  rw[L62_11]at h
  try cbv
  refine seq_go ?_
  try cbv
  refine seq_join (T:=Nat×Bool) (fun t=>⟨[(6,.v (.d (.bool false))),(11,.v (.c (.ptr (.loc 288) 0))),(16,.v (.d (.bool b117))),(18,.v (.d (.int .i64 z131))),(181,.v (.d (.bool t.2)))],[(.ext 0,.cells [.ow (.ext 1),.d (.int .i64 z38)]),(.ext 1,.tree (.fmap true) true 8 l39 none),(.ext 2,.cells [.ow (.ext 3)]),(.ext 3,.tree .flat true 7 l49 none),(.loc 288,.cells [.d (.int .u8 z13),.d (.int .i64 z14),.d (.str s15),.ow (.loc 256),.d (.int .i64 z16),.ow (.loc 257)]),(.loc 256,.tree .row true 6 l132 none),(.loc 257,.tree .row false 1 l18 none)],2208⟩) (fun t=>t.1≤m11∧L62_12 t.1 z38 l39 l49 b117 z131 l132 t.2=some r) ?_ ?_
  ·try cbv
   replace h:=lenF_inv M h
   obtain⟨z133,hz,h⟩:=h
   refine⟨false,?_⟩
   try cbv
   refine⟨z133,hz,?_⟩
   clear hz
   try cbv
   refine splitL (fun e=>?_) (fun e=>?_)
   ·replace h:=ite_t e h
    clear e
    try cbv
    exact join_next (m11,true) [6,11,16,18,181] [.ext 0,.ext 1,.ext 2,.ext 3,.loc 288,.loc 256,.loc 257] 2208 ⟨by omega,h⟩ (by cbv)
   replace h:=ite_f (Int.not_lt.2 e) h
   clear e
   try cbv
   exact join_next (m11,false) [6,11,16,18,181] [.ext 0,.ext 1,.ext 2,.ext 3,.loc 288,.loc 256,.loc 257] 2208 ⟨by omega,h⟩ (by cbv)
  clear h
  rintro⟨m12,b134⟩ ⟨hm12,h⟩
  replace hm12:m12≤m11:=hm12
  obtain _ | m12:=m12
  ·replace h:L62_12 0 z38 l39 l49 b117 z131 l132 b134=some r:=h
   rw[L62_12]at h
   cases h
  replace h:L62_12 (m12+1) z38 l39 l49 b117 z131 l132 b134=some r:=h
  rw[L62_12]at h
  try cbv
  cases b134
  ·replace h:=ite_f Bool.false_ne_true h
   try cbv
   refine seq_go ?_
   try cbv
   obtain rfl:=Option.some.inj h
   refine finQ_go hQ ?_
   try cbv
   exact⟨[],rfl,rfl,⟨rfl,⟨rfl,⟨rfl,⟨rfl,trivial⟩⟩⟩⟩,trivial,trivial⟩
  replace h:=ite_t rfl h
  try cbv
  refine seq_go ?_
  try cbv
  replace h:=needF_inv h
  obtain⟨hn,h⟩:=h
  refine⟨(M.lock_iff _).2 hn,?_⟩
  clear hn
  try cbv
  refine⟨[],?_⟩
  try cbv
  replace h:=getN_inv h
  obtain⟨x135,hx,h⟩:=h
  replace h:=ds_t49_inv h
  obtain⟨z136,z137,s138,l139,z140,l141,rfl,h⟩:=h
  refine⟨_,hx,?_⟩
  clear hx
  try cbv
  replace h:=letF_inv h
  obtain⟨z142,hz,h⟩:=h
  refine⟨z142,hz,?_⟩
  clear hz
  try cbv
  replace h:=setF_inv h
  obtain⟨l143,hl143,h⟩:=h
  refine loop_nextG (m12,(z142,l143)) [.close (.loc 256)] [] [6,11,16,18] [.ext 0,.ext 1,.ext 2,.ext 3,.loc 288,.loc 256,.loc 257] 2048 ⟨by omega,h⟩ (Nat.lt_succ_of_le (by omega)) ?_
  try cbv
  refine⟨l143,hl143,?_⟩
  clear hl143
  try cbv
  first | done | exact rfl | cbv
 replace h:=ite_f Bool.false_ne_true h
 try cbv
 refine seq_join (T:=Nat×Bool) (fun t=>⟨[(0,.v (.c (.ptr (.ext 0) 0))),(1,.v (.c (.ptr (.ext 2) 0))),(5,.v (.c (.ptr (.loc 0) 0))),(6,.v (.d (.bool false))),(7,.v (.c (.ptr (.loc 64) 0))),(8,.v (.c (.ptr (.loc 96) 0))),(9,.v (.d (.int .u8 0))),(10,.v (.d (.int .i64 0))),(11,.v (.c (.ptr (.loc 288) 0))),(23,.v (.d (.int .i64 z1))),(74,.v (.d (.bool t.2)))],[(.ext 0,.cells [.ow (.ext 1),.d (.int .i64 z10)]),(.ext 1,.tree (.fmap true) true 8 l11 none),(.ext 2,.cells [.ow (.ext 3)]),(.ext 3,.tree .flat true 7 l12 none),(.loc 0,.cells [.d (.int .i64 z1),.d (.int .i64 z2),.d (.list false 1 l3),.d (.int .u8 z4),.d (.int .i64 z5),.d (.str s6),.d (.list true 6 l7),.d (.int .i64 z8),.d (.list false 1 l9)]),(.loc 64,.cells [.d (.int .u8 0),.d (.int .i64 0),.d (.str ByteArray.empty),.nils true 6,.d (.int .i64 0),.nils false 1]),(.loc 96,.cells [.d (.int .u8 0),.d (.int .i64 0),.d (.str ByteArray.empty),.nils true 6,.d (.int .i64 0),.nils false 1]),(.loc 288,.cells [.d (.int .u8 z13),.d (.int .i64 z14),.d (.str s15),.ow (.loc 256),.d (.int .i64 z16),.ow (.loc 257)]),(.loc 256,.tree .row true 6 l17 none),(.loc 257,.tree .row false 1 l18 none)],672⟩) (fun t=>t.1≤m3∧L62_4 t.1 z1 z2 l3 z4 z5 s6 l7 z8 l9 z10 l11 l12 z13 z14 s15 z16 l17 l18 t.2=some r) ?_ ?_
 ·try cbv
  refine splitI (fun e=>?_) (fun e=>?_)
  ·replace h:=ite_t e h
   clear e
   try cbv
   exact join_next (m3,true) [0,1,5,6,7,8,9,10,11,23,74] [.ext 0,.ext 1,.ext 2,.ext 3,.loc 0,.loc 64,.loc 96,.loc 288,.loc 256,.loc 257] 672 ⟨by omega,h⟩ (by cbv)
  replace h:=ite_f e h
  clear e
  try cbv
  exact join_next (m3,false) [0,1,5,6,7,8,9,10,11,23,74] [.ext 0,.ext 1,.ext 2,.ext 3,.loc 0,.loc 64,.loc 96,.loc 288,.loc 256,.loc 257] 672 ⟨by omega,h⟩ (by cbv)
 clear h
 rintro⟨m4,b50⟩ ⟨hm4,h⟩
 replace hm4:m4≤m3:=hm4
 obtain _ | m4:=m4
 ·replace h:L62_4 0 z1 z2 l3 z4 z5 s6 l7 z8 l9 z10 l11 l12 z13 z14 s15 z16 l17 l18 b50=some r:=h
  rw[L62_4]at h
  cases h
 replace h:L62_4 (m4+1) z1 z2 l3 z4 z5 s6 l7 z8 l9 z10 l11 l12 z13 z14 s15 z16 l17 l18 b50=some r:=h
 rw[L62_4]at h
 try cbv
 cases b50
 rotate_left
 ·replace h:=ite_t rfl h
  try cbv
  refine seq_go ?_
  try cbv
  replace h:=bO5_inv h
  obtain⟨z51,z52,l53,l54,l55,hr,h⟩:=h
  refine call_go rfl rfl ?_
  try cbv
  refine call_with hM hI [.ext 0,.ext 1,.loc 256,.loc 257] (T55 _ hr) rfl (by simp) ⟨rfl,⟨rfl,⟨rfl,⟨rfl,trivial⟩⟩⟩⟩ ⟨trivial,⟨trivial,⟨trivial,⟨trivial,trivial⟩⟩⟩⟩ (by simp) ?_
  clear hr
  try cbv
  replace h:=bO2_inv h
  obtain⟨z56,l57,hr,h⟩:=h
  refine call_go rfl rfl ?_
  try cbv
  refine call_with hM hI [.ext 2,.ext 3] (T114 _ hr) rfl (by simp) ⟨rfl,⟨rfl,trivial⟩⟩ ⟨trivial,⟨trivial,trivial⟩⟩ (by simp) ?_
  clear hr
  try cbv
  refine seq_join (T:=Nat×Bool) (fun t=>⟨[(6,.v (.d (.bool false))),(7,.v (.c (.ptr (.loc 64) 0))),(11,.v (.c (.ptr (.loc 288) 0))),(16,.v (.d (.bool t.2)))],[(.ext 0,.cells [.ow (.ext 1),.d (.int .i64 z52)]),(.ext 1,.tree (.fmap true) true 8 l53 none),(.ext 2,.cells [.ow (.ext 3)]),(.ext 3,.tree .flat true 7 l57 none),(.loc 64,.cells [.d (.int .u8 0),.d (.int .i64 0),.d (.str ByteArray.empty),.nils true 6,.d (.int .i64 0),.nils false 1]),(.loc 288,.cells [.d (.int .u8 z13),.d (.int .i64 z14),.d (.str s15),.ow (.loc 256),.d (.int .i64 z16),.ow (.loc 257)]),(.loc 256,.tree .row true 6 l54 none),(.loc 257,.tree .row false 1 l55 none)],1728⟩) (fun t=>t.1≤m4∧L62_13 t.1 z52 l53 l54 l57 t.2=some r) ?_ ?_
  ·try cbv
   replace h:=bO1_inv h
   obtain⟨b144,hr,h⟩:=h
   refine call_go rfl rfl ?_
   try cbv
   refine call_pure hM hI (T34 _ hr) rfl ?_
   clear hr
   try cbv
   cases b144
   ·replace h:=ite_f Bool.false_ne_true h
    try cbv
    exact join_next (m4,false) [6,7,11,16] [.ext 0,.ext 1,.ext 2,.ext 3,.loc 64,.loc 288,.loc 256,.loc 257] 1728 ⟨by omega,h⟩ (by cbv)
   replace h:=ite_t rfl h
   try cbv
   replace h:=letF_inv h
   obtain⟨z145,hz,h⟩:=h
   refine⟨z145,hz,?_⟩
   clear hz
   try cbv
   refine splitI (fun e=>?_) (fun e=>?_)
   ·replace h:=ite_t e h
    clear e
    try cbv
    replace h:=bO1_inv h
    obtain⟨b146,hr,h⟩:=h
    refine call_go rfl rfl ?_
    try cbv
    refine call_with hM hI [.loc 256,.loc 257] (Trip.lend (targs':=[.agg [.d (.int .u8 z13),.d (.int .i64 z14),.d (.str s15),.ow (.ext 0),.d (.int .i64 z16),.ow (.ext 1)],.d (.agg [.int .u8 z4,.int .i64 z5,.str s6,.list true 6 l7,.int .i64 z8,.list false 1 l9])]) (T34 _ hr) [.tree .row true 6 l54 none,.tree .row false 1 l55 none] rfl rfl rfl rfl rfl rfl) rfl (by simp) ⟨rfl,⟨rfl,trivial⟩⟩ ⟨trivial,⟨trivial,trivial⟩⟩ (by simp) ?_
    clear hr
    try cbv
    exact join_next (m4,b146) [6,7,11,16] [.ext 0,.ext 1,.ext 2,.ext 3,.loc 64,.loc 288,.loc 256,.loc 257] 1728 ⟨by omega,h⟩ (by cbv)
   replace h:=ite_f e h
   clear e
   try cbv
   exact join_next (m4,false) [6,7,11,16] [.ext 0,.ext 1,.ext 2,.ext 3,.loc 64,.loc 288,.loc 256,.loc 257] 1728 ⟨by omega,h⟩ (by cbv)
  clear h
  rintro⟨m13,b147⟩ ⟨hm13,h⟩
  replace hm13:m13≤m4:=hm13
  obtain _ | m13:=m13
  ·replace h:L62_13 0 z52 l53 l54 l57 b147=some r:=h
   rw[L62_13]at h
   cases h
  replace h:L62_13 (m13+1) z52 l53 l54 l57 b147=some r:=h
  rw[L62_13]at h
  try cbv
  refine seq_go ?_
  try cbv
  refine seq_go ?_
  try cbv
  refine loop_invG (T:=Nat×Unit) [] [] [6,7,11,16,17] [.ext 0,.ext 1,.ext 2,.ext 3,.loc 64,.loc 288,.loc 256,.loc 257] 1760 (fun t=>⟨[(6,.v (.d (.bool false))),(7,.v (.c (.ptr (.loc 64) 0))),(11,.v (.c (.ptr (.loc 288) 0))),(16,.v (.d (.bool b147))),(17,.v (.d (.int .i64 0)))],[(.ext 0,.cells [.ow (.ext 1),.d (.int .i64 z52)]),(.ext 1,.tree (.fmap true) true 8 l53 none),(.ext 2,.cells [.ow (.ext 3)]),(.ext 3,.tree .flat true 7 l57 none),(.loc 64,.cells [.d (.int .u8 0),.d (.int .i64 0),.d (.str ByteArray.empty),.nils true 6,.d (.int .i64 0),.nils false 1]),(.loc 288,.cells [.d (.int .u8 z13),.d (.int .i64 z14),.d (.str s15),.ow (.loc 256),.d (.int .i64 z16),.ow (.loc 257)]),(.loc 256,.tree .row true 6 l54 none),(.loc 257,.tree .row false 1 l55 none)],1760⟩)
    (fun t=>t.1≤m13∧L62_14 t.1 z52 l53 l54 l57 b147=some r) (fun t=>t.1) (m13,()) ⟨Nat.le_refl _,h⟩ (by cbv) ?_
  clear h
  rintro⟨m14,_⟩ ⟨hm14,h⟩
  replace hm14:m14≤m13:=hm14
  obtain _ | m14:=m14
  ·replace h:L62_14 0 z52 l53 l54 l57 b147=some r:=h
   rw[L62_14]at h
   cases h
  replace h:L62_14 (m14+1) z52 l53 l54 l57 b147=some r:=h
  rw[L62_14]at h
  try cbv
  refine seq_go ?_
  try cbv
  refine seq_go ?_
  try cbv
  refine⟨0,(M.lenI_eq _).trans rfl,?_⟩
  try cbv
  refine splitL_f (by decide) ?_
  try cbv
  refine seq_go ?_
  try cbv
  refine seq_go ?_
  try cbv
  refine loop_invG (T:=Nat×Int×List D) [] [] [6,11,16,18] [.ext 0,.ext 1,.ext 2,.ext 3,.loc 288,.loc 256,.loc 257] 1952 (fun t=>⟨[(6,.v (.d (.bool false))),(11,.v (.c (.ptr (.loc 288) 0))),(16,.v (.d (.bool b147))),(18,.v (.d (.int .i64 t.2.1)))],[(.ext 0,.cells [.ow (.ext 1),.d (.int .i64 z52)]),(.ext 1,.tree (.fmap true) true 8 l53 none),(.ext 2,.cells [.ow (.ext 3)]),(.ext 3,.tree .flat true 7 l57 none),(.loc 288,.cells [.d (.int .u8 z13),.d (.int .i64 z14),.d (.str s15),.ow (.loc 256),.d (.int .i64 z16),.ow (.loc 257)]),(.loc 256,.tree .row true 6 t.2.2 none),(.loc 257,.tree .row false 1 l55 none)],1952⟩)
    (fun t=>t.1≤m14∧L62_15 t.1 z52 l53 l57 b147 t.2.1 t.2.2=some r) (fun t=>t.1) (m14,((0:Int),l54)) ⟨Nat.le_refl _,h⟩ (by cbv) ?_
  clear h
  rintro⟨m15,z148,l149⟩ ⟨hm15,h⟩
  replace hm15:m15≤m14:=hm15
  obtain _ | m15:=m15
  ·replace h:L62_15 0 z52 l53 l57 b147 z148 l149=some r:=h
   rw[L62_15]at h
   cases h
  replace h:L62_15 (m15+1) z52 l53 l57 b147 z148 l149=some r:=h
  rw[L62_15]at h
  try cbv
  refine seq_go ?_
  try cbv
  refine seq_join (T:=Nat×Bool) (fun t=>⟨[(6,.v (.d (.bool false))),(11,.v (.c (.ptr (.loc 288) 0))),(16,.v (.d (.bool b147))),(18,.v (.d (.int .i64 z148))),(181,.v (.d (.bool t.2)))],[(.ext 0,.cells [.ow (.ext 1),.d (.int .i64 z52)]),(.ext 1,.tree (.fmap true) true 8 l53 none),(.ext 2,.cells [.ow (.ext 3)]),(.ext 3,.tree .flat true 7 l57 none),(.loc 288,.cells [.d (.int .u8 z13),.d (.int .i64 z14),.d (.str s15),.ow (.loc 256),.d (.int .i64 z16),.ow (.loc 257)]),(.loc 256,.tree .row true 6 l149 none),(.loc 257,.tree .row false 1 l55 none)],2112⟩) (fun t=>t.1≤m15∧L62_16 t.1 z52 l53 l57 b147 z148 l149 t.2=some r) ?_ ?_
  ·try cbv
   replace h:=lenF_inv M h
   obtain⟨z150,hz,h⟩:=h
   refine⟨false,?_⟩
   try cbv
   refine⟨z150,hz,?_⟩
   clear hz
   try cbv
   refine splitL (fun e=>?_) (fun e=>?_)
   ·replace h:=ite_t e h
    clear e
    try cbv
    exact join_next (m15,true) [6,11,16,18,181] [.ext 0,.ext 1,.ext 2,.ext 3,.loc 288,.loc 256,.loc 257] 2112 ⟨by omega,h⟩ (by cbv)
   replace h:=ite_f (Int.not_lt.2 e) h
   clear e
   try cbv
   exact join_next (m15,false) [6,11,16,18,181] [.ext 0,.ext 1,.ext 2,.ext 3,.loc 288,.loc 256,.loc 257] 2112 ⟨by omega,h⟩ (by cbv)
  clear h
  rintro⟨m16,b151⟩ ⟨hm16,h⟩
  replace hm16:m16≤m15:=hm16
  obtain _ | m16:=m16
  ·replace h:L62_16 0 z52 l53 l57 b147 z148 l149 b151=some r:=h
   rw[L62_16]at h
   cases h
  replace h:L62_16 (m16+1) z52 l53 l57 b147 z148 l149 b151=some r:=h
  rw[L62_16]at h
  try cbv
  cases b151
  ·replace h:=ite_f Bool.false_ne_true h
   try cbv
   refine seq_go ?_
   try cbv
   obtain rfl:=Option.some.inj h
   refine finQ_go hQ ?_
   try cbv
   exact⟨[],rfl,rfl,⟨rfl,⟨rfl,⟨rfl,⟨rfl,trivial⟩⟩⟩⟩,trivial,trivial⟩
  replace h:=ite_t rfl h
  try cbv
  refine seq_go ?_
  try cbv
  replace h:=needF_inv h
  obtain⟨hn,h⟩:=h
  refine⟨(M.lock_iff _).2 hn,?_⟩
  clear hn
  try cbv
  refine⟨[],?_⟩
  try cbv
  replace h:=getN_inv h
  obtain⟨x152,hx,h⟩:=h
  replace h:=ds_t49_inv h
  obtain⟨z153,z154,s155,l156,z157,l158,rfl,h⟩:=h
  refine⟨_,hx,?_⟩
  clear hx
  try cbv
  replace h:=letF_inv h
  obtain⟨z159,hz,h⟩:=h
  refine⟨z159,hz,?_⟩
  clear hz
  try cbv
  replace h:=setF_inv h
  obtain⟨l160,hl160,h⟩:=h
  refine loop_nextG (m16,(z159,l160)) [.close (.loc 256)] [] [6,11,16,18] [.ext 0,.ext 1,.ext 2,.ext 3,.loc 288,.loc 256,.loc 257] 1952 ⟨by omega,h⟩ (Nat.lt_succ_of_le (by omega)) ?_
  try cbv
  refine⟨l160,hl160,?_⟩
  clear hl160
  try cbv
  first | done | exact rfl | cbv
 replace h:=ite_f Bool.false_ne_true h
 try cbv
 refine seq_join (T:=Nat×Bool) (fun t=>⟨[(0,.v (.c (.ptr (.ext 0) 0))),(1,.v (.c (.ptr (.ext 2) 0))),(5,.v (.c (.ptr (.loc 0) 0))),(6,.v (.d (.bool false))),(7,.v (.c (.ptr (.loc 64) 0))),(8,.v (.c (.ptr (.loc 96) 0))),(9,.v (.d (.int .u8 0))),(10,.v (.d (.int .i64 0))),(11,.v (.c (.ptr (.loc 288) 0))),(23,.v (.d (.int .i64 z1))),(91,.v (.d (.bool t.2)))],[(.ext 0,.cells [.ow (.ext 1),.d (.int .i64 z10)]),(.ext 1,.tree (.fmap true) true 8 l11 none),(.ext 2,.cells [.ow (.ext 3)]),(.ext 3,.tree .flat true 7 l12 none),(.loc 0,.cells [.d (.int .i64 z1),.d (.int .i64 z2),.d (.list false 1 l3),.d (.int .u8 z4),.d (.int .i64 z5),.d (.str s6),.d (.list true 6 l7),.d (.int .i64 z8),.d (.list false 1 l9)]),(.loc 64,.cells [.d (.int .u8 0),.d (.int .i64 0),.d (.str ByteArray.empty),.nils true 6,.d (.int .i64 0),.nils false 1]),(.loc 96,.cells [.d (.int .u8 0),.d (.int .i64 0),.d (.str ByteArray.empty),.nils true 6,.d (.int .i64 0),.nils false 1]),(.loc 288,.cells [.d (.int .u8 z13),.d (.int .i64 z14),.d (.str s15),.ow (.loc 256),.d (.int .i64 z16),.ow (.loc 257)]),(.loc 256,.tree .row true 6 l17 none),(.loc 257,.tree .row false 1 l18 none)],736⟩) (fun t=>t.1≤m4∧L62_5 t.1 z1 z2 l3 z4 z5 s6 l7 z8 l9 z10 l11 l12 z13 z14 s15 z16 l17 l18 t.2=some r) ?_ ?_
 ·try cbv
  refine splitI (fun e=>?_) (fun e=>?_)
  ·replace h:=ite_t e h
   clear e
   try cbv
   exact join_next (m4,true) [0,1,5,6,7,8,9,10,11,23,91] [.ext 0,.ext 1,.ext 2,.ext 3,.loc 0,.loc 64,.loc 96,.loc 288,.loc 256,.loc 257] 736 ⟨by omega,h⟩ (by cbv)
  replace h:=ite_f e h
  clear e
  try cbv
  exact join_next (m4,false) [0,1,5,6,7,8,9,10,11,23,91] [.ext 0,.ext 1,.ext 2,.ext 3,.loc 0,.loc 64,.loc 96,.loc 288,.loc 256,.loc 257] 736 ⟨by omega,h⟩ (by cbv)
 clear h
 rintro⟨m5,b58⟩ ⟨hm5,h⟩
 replace hm5:m5≤m4:=hm5
 obtain _ | m5:=m5
 ·replace h:L62_5 0 z1 z2 l3 z4 z5 s6 l7 z8 l9 z10 l11 l12 z13 z14 s15 z16 l17 l18 b58=some r:=h
  rw[L62_5]at h
  cases h
 replace h:L62_5 (m5+1) z1 z2 l3 z4 z5 s6 l7 z8 l9 z10 l11 l12 z13 z14 s15 z16 l17 l18 b58=some r:=h
 rw[L62_5]at h
 try cbv
 cases b58
 rotate_left
 ·replace h:=ite_t rfl h
  try cbv
  refine seq_go ?_
  try cbv
  replace h:=bO9_inv h
  obtain⟨z59,z60,s61,z62,z63,z64,l65,l66,l67,hr,h⟩:=h
  refine call_go rfl rfl ?_
  try cbv
  refine call_with hM hI [.ext 0,.ext 1] (T115 _ hr) rfl (by simp) ⟨rfl,⟨rfl,trivial⟩⟩ ⟨trivial,⟨trivial,trivial⟩⟩ (by simp) ?_
  clear hr
  try cbv
  replace h:=bO8_inv h
  obtain⟨z68,z69,s70,l71,z72,l73,z74,l75,hr,h⟩:=h
  refine call_go rfl rfl ?_
  try cbv
  refine call_with hM hI [.ext 2,.ext 3] (T116 _ hr) rfl (by simp) ⟨rfl,⟨rfl,trivial⟩⟩ ⟨trivial,⟨trivial,trivial⟩⟩ (by simp) ?_
  clear hr
  try cbv
  refine seq_join (T:=Nat×Bool) (fun t=>⟨[(6,.v (.d (.bool false))),(7,.v (.c (.ptr (.loc 64) 0))),(11,.v (.c (.ptr (.loc 288) 0))),(16,.v (.d (.bool t.2)))],[(.ext 0,.cells [.ow (.ext 1),.d (.int .i64 z64)]),(.ext 1,.tree (.fmap true) true 8 l65 none),(.ext 2,.cells [.ow (.ext 3)]),(.ext 3,.tree .flat true 7 l75 none),(.loc 64,.cells [.d (.int .u8 z59),.d (.int .i64 z60),.d (.str s61),.ow (.loc 896),.d (.int .i64 z62),.ow (.loc 897)]),(.loc 896,.tree .row true 6 l66 none),(.loc 897,.tree .row false 1 l67 none),(.loc 288,.cells [.d (.int .u8 z13),.d (.int .i64 z14),.d (.str s15),.ow (.loc 256),.d (.int .i64 z16),.ow (.loc 257)]),(.loc 256,.tree .row true 6 l17 none),(.loc 257,.tree .row false 1 l18 none)],1952⟩) (fun t=>t.1≤m5∧L62_17 t.1 l17 z64 l65 l66 l75 t.2=some r) ?_ ?_
  ·try cbv
   replace h:=bO1_inv h
   obtain⟨b161,hr,h⟩:=h
   refine call_go rfl rfl ?_
   try cbv
   refine call_with hM hI [.loc 896,.loc 897] (Trip.lend (targs':=[.agg [.d (.int .u8 z59),.d (.int .i64 z60),.d (.str s61),.ow (.ext 0),.d (.int .i64 z62),.ow (.ext 1)],.d (.agg [.int .u8 z68,.int .i64 z69,.str s70,.list true 6 l71,.int .i64 z72,.list false 1 l73])]) (T34 _ hr) [.tree .row true 6 l66 none,.tree .row false 1 l67 none] rfl rfl rfl rfl rfl rfl) rfl (by simp) ⟨rfl,⟨rfl,trivial⟩⟩ ⟨trivial,⟨trivial,trivial⟩⟩ (by simp) ?_
   clear hr
   try cbv
   cases b161
   ·replace h:=ite_f Bool.false_ne_true h
    try cbv
    exact join_next (m5,false) [6,7,11,16] [.ext 0,.ext 1,.ext 2,.ext 3,.loc 64,.loc 896,.loc 897,.loc 288,.loc 256,.loc 257] 1952 ⟨by omega,h⟩ (by cbv)
   replace h:=ite_t rfl h
   try cbv
   replace h:=letF_inv h
   obtain⟨z162,hz,h⟩:=h
   refine⟨z162,hz,?_⟩
   clear hz
   try cbv
   refine splitI (fun e=>?_) (fun e=>?_)
   ·replace h:=ite_t e h
    clear e
    try cbv
    replace h:=bO1_inv h
    obtain⟨b163,hr,h⟩:=h
    refine call_go rfl rfl ?_
    try cbv
    refine call_with hM hI [.loc 256,.loc 257] (Trip.lend (targs':=[.agg [.d (.int .u8 z13),.d (.int .i64 z14),.d (.str s15),.ow (.ext 0),.d (.int .i64 z16),.ow (.ext 1)],.d (.agg [.int .u8 z4,.int .i64 z5,.str s6,.list true 6 l7,.int .i64 z8,.list false 1 l9])]) (T34 _ hr) [.tree .row true 6 l17 none,.tree .row false 1 l18 none] rfl rfl rfl rfl rfl rfl) rfl (by simp) ⟨rfl,⟨rfl,trivial⟩⟩ ⟨trivial,⟨trivial,trivial⟩⟩ (by simp) ?_
    clear hr
    try cbv
    exact join_next (m5,b163) [6,7,11,16] [.ext 0,.ext 1,.ext 2,.ext 3,.loc 64,.loc 896,.loc 897,.loc 288,.loc 256,.loc 257] 1952 ⟨by omega,h⟩ (by cbv)
   replace h:=ite_f e h
   clear e
   try cbv
   exact join_next (m5,false) [6,7,11,16] [.ext 0,.ext 1,.ext 2,.ext 3,.loc 64,.loc 896,.loc 897,.loc 288,.loc 256,.loc 257] 1952 ⟨by omega,h⟩ (by cbv)
  clear h
  rintro⟨m17,b164⟩ ⟨hm17,h⟩
  replace hm17:m17≤m5:=hm17
  obtain _ | m17:=m17
  ·replace h:L62_17 0 l17 z64 l65 l66 l75 b164=some r:=h
   rw[L62_17]at h
   cases h
  replace h:L62_17 (m17+1) l17 z64 l65 l66 l75 b164=some r:=h
  rw[L62_17]at h
  try cbv
  refine seq_go ?_
  try cbv
  refine seq_go ?_
  try cbv
  refine loop_invG (T:=Nat×Int×List D) [] [] [6,7,11,16,17] [.ext 0,.ext 1,.ext 2,.ext 3,.loc 64,.loc 896,.loc 897,.loc 288,.loc 256,.loc 257] 1984 (fun t=>⟨[(6,.v (.d (.bool false))),(7,.v (.c (.ptr (.loc 64) 0))),(11,.v (.c (.ptr (.loc 288) 0))),(16,.v (.d (.bool b164))),(17,.v (.d (.int .i64 t.2.1)))],[(.ext 0,.cells [.ow (.ext 1),.d (.int .i64 z64)]),(.ext 1,.tree (.fmap true) true 8 l65 none),(.ext 2,.cells [.ow (.ext 3)]),(.ext 3,.tree .flat true 7 l75 none),(.loc 64,.cells [.d (.int .u8 z59),.d (.int .i64 z60),.d (.str s61),.ow (.loc 896),.d (.int .i64 z62),.ow (.loc 897)]),(.loc 896,.tree .row true 6 t.2.2 none),(.loc 897,.tree .row false 1 l67 none),(.loc 288,.cells [.d (.int .u8 z13),.d (.int .i64 z14),.d (.str s15),.ow (.loc 256),.d (.int .i64 z16),.ow (.loc 257)]),(.loc 256,.tree .row true 6 l17 none),(.loc 257,.tree .row false 1 l18 none)],1984⟩)
    (fun t=>t.1≤m17∧L62_18 t.1 l17 z64 l65 l75 b164 t.2.1 t.2.2=some r) (fun t=>t.1) (m17,((0:Int),l66)) ⟨Nat.le_refl _,h⟩ (by cbv) ?_
  clear h
  rintro⟨m18,z165,l166⟩ ⟨hm18,h⟩
  replace hm18:m18≤m17:=hm18
  obtain _ | m18:=m18
  ·replace h:L62_18 0 l17 z64 l65 l75 b164 z165 l166=some r:=h
   rw[L62_18]at h
   cases h
  replace h:L62_18 (m18+1) l17 z64 l65 l75 b164 z165 l166=some r:=h
  rw[L62_18]at h
  try cbv
  refine seq_go ?_
  try cbv
  refine seq_join (T:=Nat×Bool) (fun t=>⟨[(6,.v (.d (.bool false))),(7,.v (.c (.ptr (.loc 64) 0))),(11,.v (.c (.ptr (.loc 288) 0))),(16,.v (.d (.bool b164))),(17,.v (.d (.int .i64 z165))),(169,.v (.d (.bool t.2)))],[(.ext 0,.cells [.ow (.ext 1),.d (.int .i64 z64)]),(.ext 1,.tree (.fmap true) true 8 l65 none),(.ext 2,.cells [.ow (.ext 3)]),(.ext 3,.tree .flat true 7 l75 none),(.loc 64,.cells [.d (.int .u8 z59),.d (.int .i64 z60),.d (.str s61),.ow (.loc 896),.d (.int .i64 z62),.ow (.loc 897)]),(.loc 896,.tree .row true 6 l166 none),(.loc 897,.tree .row false 1 l67 none),(.loc 288,.cells [.d (.int .u8 z13),.d (.int .i64 z14),.d (.str s15),.ow (.loc 256),.d (.int .i64 z16),.ow (.loc 257)]),(.loc 256,.tree .row true 6 l17 none),(.loc 257,.tree .row false 1 l18 none)],2144⟩) (fun t=>t.1≤m18∧L62_19 t.1 l17 z64 l65 l75 b164 z165 l166 t.2=some r) ?_ ?_
  ·try cbv
   replace h:=lenF_inv M h
   obtain⟨z167,hz,h⟩:=h
   refine⟨false,?_⟩
   try cbv
   refine⟨z167,hz,?_⟩
   clear hz
   try cbv
   refine splitL (fun e=>?_) (fun e=>?_)
   ·replace h:=ite_t e h
    clear e
    try cbv
    exact join_next (m18,true) [6,7,11,16,17,169] [.ext 0,.ext 1,.ext 2,.ext 3,.loc 64,.loc 896,.loc 897,.loc 288,.loc 256,.loc 257] 2144 ⟨by omega,h⟩ (by cbv)
   replace h:=ite_f (Int.not_lt.2 e) h
   clear e
   try cbv
   exact join_next (m18,false) [6,7,11,16,17,169] [.ext 0,.ext 1,.ext 2,.ext 3,.loc 64,.loc 896,.loc 897,.loc 288,.loc 256,.loc 257] 2144 ⟨by omega,h⟩ (by cbv)
  clear h
  rintro⟨m19,b168⟩ ⟨hm19,h⟩
  replace hm19:m19≤m18:=hm19
  obtain _ | m19:=m19
  ·replace h:L62_19 0 l17 z64 l65 l75 b164 z165 l166 b168=some r:=h
   rw[L62_19]at h
   cases h
  replace h:L62_19 (m19+1) l17 z64 l65 l75 b164 z165 l166 b168=some r:=h
  rw[L62_19]at h
  try cbv
  cases b168
  rotate_left
  ·replace h:=ite_t rfl h
   try cbv
   refine seq_go ?_
   try cbv
   replace h:=needF_inv h
   obtain⟨hn,h⟩:=h
   refine⟨(M.lock_iff _).2 hn,?_⟩
   clear hn
   try cbv
   refine⟨[],?_⟩
   try cbv
   replace h:=getN_inv h
   obtain⟨x169,hx,h⟩:=h
   replace h:=ds_t49_inv h
   obtain⟨z170,z171,s172,l173,z174,l175,rfl,h⟩:=h
   refine⟨_,hx,?_⟩
   clear hx
   try cbv
   replace h:=letF_inv h
   obtain⟨z176,hz,h⟩:=h
   refine⟨z176,hz,?_⟩
   clear hz
   try cbv
   replace h:=setF_inv h
   obtain⟨l177,hl177,h⟩:=h
   refine loop_nextG (m19,(z176,l177)) [.close (.loc 896)] [] [6,7,11,16,17] [.ext 0,.ext 1,.ext 2,.ext 3,.loc 64,.loc 896,.loc 897,.loc 288,.loc 256,.loc 257] 1984 ⟨by omega,h⟩ (Nat.lt_succ_of_le (by omega)) ?_
   try cbv
   refine⟨l177,hl177,?_⟩
   clear hl177
   try cbv
   first | done | exact rfl | cbv
  replace h:=ite_f Bool.false_ne_true h
  try cbv
  refine seq_go ?_
  try cbv
  refine seq_go ?_
  try cbv
  refine loop_invG (T:=Nat×Int×List D) [] [] [6,11,16,18] [.ext 0,.ext 1,.ext 2,.ext 3,.loc 288,.loc 256,.loc 257] 2176 (fun t=>⟨[(6,.v (.d (.bool false))),(11,.v (.c (.ptr (.loc 288) 0))),(16,.v (.d (.bool b164))),(18,.v (.d (.int .i64 t.2.1)))],[(.ext 0,.cells [.ow (.ext 1),.d (.int .i64 z64)]),(.ext 1,.tree (.fmap true) true 8 l65 none),(.ext 2,.cells [.ow (.ext 3)]),(.ext 3,.tree .flat true 7 l75 none),(.loc 288,.cells [.d (.int .u8 z13),.d (.int .i64 z14),.d (.str s15),.ow (.loc 256),.d (.int .i64 z16),.ow (.loc 257)]),(.loc 256,.tree .row true 6 t.2.2 none),(.loc 257,.tree .row false 1 l18 none)],2176⟩)
    (fun t=>t.1≤m19∧L62_20 t.1 z64 l65 l75 b164 t.2.1 t.2.2=some r) (fun t=>t.1) (m19,((0:Int),l17)) ⟨Nat.le_refl _,h⟩ (by cbv) ?_
  clear h
  rintro⟨m20,z178,l179⟩ ⟨hm20,h⟩
  replace hm20:m20≤m19:=hm20
  obtain _ | m20:=m20
  ·replace h:L62_20 0 z64 l65 l75 b164 z178 l179=some r:=h
   rw[L62_20]at h
   cases h
  replace h:L62_20 (m20+1) z64 l65 l75 b164 z178 l179=some r:=h
  rw[L62_20]at h
  try cbv
  refine seq_go ?_
  try cbv
  refine seq_join (T:=Nat×Bool) (fun t=>⟨[(6,.v (.d (.bool false))),(11,.v (.c (.ptr (.loc 288) 0))),(16,.v (.d (.bool b164))),(18,.v (.d (.int .i64 z178))),(181,.v (.d (.bool t.2)))],[(.ext 0,.cells [.ow (.ext 1),.d (.int .i64 z64)]),(.ext 1,.tree (.fmap true) true 8 l65 none),(.ext 2,.cells [.ow (.ext 3)]),(.ext 3,.tree .flat true 7 l75 none),(.loc 288,.cells [.d (.int .u8 z13),.d (.int .i64 z14),.d (.str s15),.ow (.loc 256),.d (.int .i64 z16),.ow (.loc 257)]),(.loc 256,.tree .row true 6 l179 none),(.loc 257,.tree .row false 1 l18 none)],2336⟩) (fun t=>t.1≤m20∧L62_21 t.1 z64 l65 l75 b164 z178 l179 t.2=some r) ?_ ?_
  ·try cbv
   replace h:=lenF_inv M h
   obtain⟨z180,hz,h⟩:=h
   refine⟨false,?_⟩
   try cbv
   refine⟨z180,hz,?_⟩
   clear hz
   try cbv
   refine splitL (fun e=>?_) (fun e=>?_)
   ·replace h:=ite_t e h
    clear e
    try cbv
    exact join_next (m20,true) [6,11,16,18,181] [.ext 0,.ext 1,.ext 2,.ext 3,.loc 288,.loc 256,.loc 257] 2336 ⟨by omega,h⟩ (by cbv)
   replace h:=ite_f (Int.not_lt.2 e) h
   clear e
   try cbv
   exact join_next (m20,false) [6,11,16,18,181] [.ext 0,.ext 1,.ext 2,.ext 3,.loc 288,.loc 256,.loc 257] 2336 ⟨by omega,h⟩ (by cbv)
  clear h
  rintro⟨m21,b181⟩ ⟨hm21,h⟩
  replace hm21:m21≤m20:=hm21
  obtain _ | m21:=m21
  ·replace h:L62_21 0 z64 l65 l75 b164 z178 l179 b181=some r:=h
   rw[L62_21]at h
   cases h
  replace h:L62_21 (m21+1) z64 l65 l75 b164 z178 l179 b181=some r:=h
  rw[L62_21]at h
  try cbv
  cases b181
  ·replace h:=ite_f Bool.false_ne_true h
   try cbv
   refine seq_go ?_
   try cbv
   obtain rfl:=Option.some.inj h
   refine finQ_go hQ ?_
   try cbv
   exact⟨[],rfl,rfl,⟨rfl,⟨rfl,⟨rfl,⟨rfl,trivial⟩⟩⟩⟩,trivial,trivial⟩
  replace h:=ite_t rfl h
  try cbv
  refine seq_go ?_
  try cbv
  replace h:=needF_inv h
  obtain⟨hn,h⟩:=h
  refine⟨(M.lock_iff _).2 hn,?_⟩
  clear hn
  try cbv
  refine⟨[],?_⟩
  try cbv
  replace h:=getN_inv h
  obtain⟨x182,hx,h⟩:=h
  replace h:=ds_t49_inv h
  obtain⟨z183,z184,s185,l186,z187,l188,rfl,h⟩:=h
  refine⟨_,hx,?_⟩
  clear hx
  try cbv
  replace h:=letF_inv h
  obtain⟨z189,hz,h⟩:=h
  refine⟨z189,hz,?_⟩
  clear hz
  try cbv
  replace h:=setF_inv h
  obtain⟨l190,hl190,h⟩:=h
  refine loop_nextG (m21,(z189,l190)) [.close (.loc 256)] [] [6,11,16,18] [.ext 0,.ext 1,.ext 2,.ext 3,.loc 288,.loc 256,.loc 257] 2176 ⟨by omega,h⟩ (Nat.lt_succ_of_le (by omega)) ?_
  try cbv
  refine⟨l190,hl190,?_⟩
  clear hl190
  try cbv
  first | done | exact rfl | cbv
 replace h:=ite_f Bool.false_ne_true h
 try cbv
 refine seq_join (T:=Nat×Bool) (fun t=>⟨[(0,.v (.c (.ptr (.ext 0) 0))),(1,.v (.c (.ptr (.ext 2) 0))),(5,.v (.c (.ptr (.loc 0) 0))),(6,.v (.d (.bool false))),(7,.v (.c (.ptr (.loc 64) 0))),(8,.v (.c (.ptr (.loc 96) 0))),(9,.v (.d (.int .u8 0))),(10,.v (.d (.int .i64 0))),(11,.v (.c (.ptr (.loc 288) 0))),(23,.v (.d (.int .i64 z1))),(111,.v (.d (.bool t.2)))],[(.ext 0,.cells [.ow (.ext 1),.d (.int .i64 z10)]),(.ext 1,.tree (.fmap true) true 8 l11 none),(.ext 2,.cells [.ow (.ext 3)]),(.ext 3,.tree .flat true 7 l12 none),(.loc 0,.cells [.d (.int .i64 z1),.d (.int .i64 z2),.d (.list false 1 l3),.d (.int .u8 z4),.d (.int .i64 z5),.d (.str s6),.d (.list true 6 l7),.d (.int .i64 z8),.d (.list false 1 l9)]),(.loc 64,.cells [.d (.int .u8 0),.d (.int .i64 0),.d (.str ByteArray.empty),.nils true 6,.d (.int .i64 0),.nils false 1]),(.loc 96,.cells [.d (.int .u8 0),.d (.int .i64 0),.d (.str ByteArray.empty),.nils true 6,.d (.int .i64 0),.nils false 1]),(.loc 288,.cells [.d (.int .u8 z13),.d (.int .i64 z14),.d (.str s15),.ow (.loc 256),.d (.int .i64 z16),.ow (.loc 257)]),(.loc 256,.tree .row true 6 l17 none),(.loc 257,.tree .row false 1 l18 none)],800⟩) (fun t=>t.1≤m5∧L62_6 t.1 z1 z2 l3 z4 z5 s6 l7 z8 l9 z10 l11 l12 z13 z14 s15 z16 l17 l18 t.2=some r) ?_ ?_
 ·try cbv
  refine splitI (fun e=>?_) (fun e=>?_)
  ·replace h:=ite_t e h
   clear e
   try cbv
   exact join_next (m5,true) [0,1,5,6,7,8,9,10,11,23,111] [.ext 0,.ext 1,.ext 2,.ext 3,.loc 0,.loc 64,.loc 96,.loc 288,.loc 256,.loc 257] 800 ⟨by omega,h⟩ (by cbv)
  replace h:=ite_f e h
  clear e
  try cbv
  exact join_next (m5,false) [0,1,5,6,7,8,9,10,11,23,111] [.ext 0,.ext 1,.ext 2,.ext 3,.loc 0,.loc 64,.loc 96,.loc 288,.loc 256,.loc 257] 800 ⟨by omega,h⟩ (by cbv)
 clear h
 rintro⟨m6,b76⟩ ⟨hm6,h⟩
 replace hm6:m6≤m5:=hm6
 obtain _ | m6:=m6
 ·replace h:L62_6 0 z1 z2 l3 z4 z5 s6 l7 z8 l9 z10 l11 l12 z13 z14 s15 z16 l17 l18 b76=some r:=h
  rw[L62_6]at h
  cases h
 replace h:L62_6 (m6+1) z1 z2 l3 z4 z5 s6 l7 z8 l9 z10 l11 l12 z13 z14 s15 z16 l17 l18 b76=some r:=h
 rw[L62_6]at h
 try cbv
 cases b76
 rotate_left
 ·replace h:=ite_t rfl h
  try cbv
  refine seq_go ?_
  try cbv
  replace h:=bO11_inv h
  obtain⟨z77,z78,s79,z80,z81,z82,l83,l84,l85,l86,l87,hr,h⟩:=h
  refine call_go rfl rfl ?_
  try cbv
  refine call_with hM hI [.ext 0,.ext 1,.loc 256,.loc 257] (T53x1 _ hr) rfl (by simp) ⟨rfl,⟨rfl,⟨rfl,⟨rfl,trivial⟩⟩⟩⟩ ⟨trivial,⟨trivial,⟨trivial,⟨trivial,trivial⟩⟩⟩⟩ (by simp) ?_
  clear hr
  try cbv
  replace h:=bO8_inv h
  obtain⟨z88,z89,s90,l91,z92,l93,z94,l95,hr,h⟩:=h
  refine call_go rfl rfl ?_
  try cbv
  refine call_with hM hI [.ext 2,.ext 3] (T117 _ hr) rfl (by simp) ⟨rfl,⟨rfl,trivial⟩⟩ ⟨trivial,⟨trivial,trivial⟩⟩ (by simp) ?_
  clear hr
  try cbv
  refine seq_join (T:=Nat×Bool) (fun t=>⟨[(6,.v (.d (.bool false))),(7,.v (.c (.ptr (.loc 64) 0))),(11,.v (.c (.ptr (.loc 288) 0))),(16,.v (.d (.bool t.2)))],[(.ext 0,.cells [.ow (.ext 1),.d (.int .i64 z82)]),(.ext 1,.tree (.fmap true) true 8 l83 none),(.ext 2,.cells [.ow (.ext 3)]),(.ext 3,.tree .flat true 7 l95 none),(.loc 64,.cells [.d (.int .u8 z77),.d (.int .i64 z78),.d (.str s79),.ow (.loc 992),.d (.int .i64 z80),.ow (.loc 993)]),(.loc 992,.tree .row true 6 l86 none),(.loc 993,.tree .row false 1 l87 none),(.loc 288,.cells [.d (.int .u8 z13),.d (.int .i64 z14),.d (.str s15),.ow (.loc 256),.d (.int .i64 z16),.ow (.loc 257)]),(.loc 256,.tree .row true 6 l84 none),(.loc 257,.tree .row false 1 l85 none)],2112⟩) (fun t=>t.1≤m6∧L62_22 t.1 z82 l83 l84 l86 l95 t.2=some r) ?_ ?_
  ·try cbv
   replace h:=bO1_inv h
   obtain⟨b191,hr,h⟩:=h
   refine call_go rfl rfl ?_
   try cbv
   refine call_with hM hI [.loc 992,.loc 993] (Trip.lend (targs':=[.agg [.d (.int .u8 z77),.d (.int .i64 z78),.d (.str s79),.ow (.ext 0),.d (.int .i64 z80),.ow (.ext 1)],.d (.agg [.int .u8 z88,.int .i64 z89,.str s90,.list true 6 l91,.int .i64 z92,.list false 1 l93])]) (T34 _ hr) [.tree .row true 6 l86 none,.tree .row false 1 l87 none] rfl rfl rfl rfl rfl rfl) rfl (by simp) ⟨rfl,⟨rfl,trivial⟩⟩ ⟨trivial,⟨trivial,trivial⟩⟩ (by simp) ?_
   clear hr
   try cbv
   cases b191
   ·replace h:=ite_f Bool.false_ne_true h
    try cbv
    exact join_next (m6,false) [6,7,11,16] [.ext 0,.ext 1,.ext 2,.ext 3,.loc 64,.loc 992,.loc 993,.loc 288,.loc 256,.loc 257] 2112 ⟨by omega,h⟩ (by cbv)
   replace h:=ite_t rfl h
   try cbv
   replace h:=letF_inv h
   obtain⟨z192,hz,h⟩:=h
   refine⟨z192,hz,?_⟩
   clear hz
   try cbv
   refine splitI (fun e=>?_) (fun e=>?_)
   ·replace h:=ite_t e h
    clear e
    try cbv
    replace h:=bO1_inv h
    obtain⟨b193,hr,h⟩:=h
    refine call_go rfl rfl ?_
    try cbv
    refine call_with hM hI [.loc 256,.loc 257] (Trip.lend (targs':=[.agg [.d (.int .u8 z13),.d (.int .i64 z14),.d (.str s15),.ow (.ext 0),.d (.int .i64 z16),.ow (.ext 1)],.d (.agg [.int .u8 z4,.int .i64 z5,.str s6,.list true 6 l7,.int .i64 z8,.list false 1 l9])]) (T34 _ hr) [.tree .row true 6 l84 none,.tree .row false 1 l85 none] rfl rfl rfl rfl rfl rfl) rfl (by simp) ⟨rfl,⟨rfl,trivial⟩⟩ ⟨trivial,⟨trivial,trivial⟩⟩ (by simp) ?_
    clear hr
    try cbv
    exact join_next (m6,b193) [6,7,11,16] [.ext 0,.ext 1,.ext 2,.ext 3,.loc 64,.loc 992,.loc 993,.loc 288,.loc 256,.loc 257] 2112 ⟨by omega,h⟩ (by cbv)
   replace h:=ite_f e h
   clear e
   try cbv
   exact join_next (m6,false) [6,7,11,16] [.ext 0,.ext 1,.ext 2,.ext 3,.loc 64,.loc 992,.loc 993,.loc 288,.loc 256,.loc 257] 2112 ⟨by omega,h⟩ (by cbv)
  clear h
  rintro⟨m22,b194⟩ ⟨hm22,h⟩
  replace hm22:m22≤m6:=hm22
  obtain _ | m22:=m22
  ·replace h:L62_22 0 z82 l83 l84 l86 l95 b194=some r:=h
   rw[L62_22]at h
   cases h
  replace h:L62_22 (m22+1) z82 l83 l84 l86 l95 b194=some r:=h
  rw[L62_22]at h
  try cbv
  refine seq_go ?_
  try cbv
  refine seq_go ?_
  try cbv
  refine loop_invG (T:=Nat×Int×List D) [] [] [6,7,11,16,17] [.ext 0,.ext 1,.ext 2,.ext 3,.loc 64,.loc 992,.loc 993,.loc 288,.loc 256,.loc 257] 2144 (fun t=>⟨[(6,.v (.d (.bool false))),(7,.v (.c (.ptr (.loc 64) 0))),(11,.v (.c (.ptr (.loc 288) 0))),(16,.v (.d (.bool b194))),(17,.v (.d (.int .i64 t.2.1)))],[(.ext 0,.cells [.ow (.ext 1),.d (.int .i64 z82)]),(.ext 1,.tree (.fmap true) true 8 l83 none),(.ext 2,.cells [.ow (.ext 3)]),(.ext 3,.tree .flat true 7 l95 none),(.loc 64,.cells [.d (.int .u8 z77),.d (.int .i64 z78),.d (.str s79),.ow (.loc 992),.d (.int .i64 z80),.ow (.loc 993)]),(.loc 992,.tree .row true 6 t.2.2 none),(.loc 993,.tree .row false 1 l87 none),(.loc 288,.cells [.d (.int .u8 z13),.d (.int .i64 z14),.d (.str s15),.ow (.loc 256),.d (.int .i64 z16),.ow (.loc 257)]),(.loc 256,.tree .row true 6 l84 none),(.loc 257,.tree .row false 1 l85 none)],2144⟩)
    (fun t=>t.1≤m22∧L62_23 t.1 z82 l83 l84 l95 b194 t.2.1 t.2.2=some r) (fun t=>t.1) (m22,((0:Int),l86)) ⟨Nat.le_refl _,h⟩ (by cbv) ?_
  clear h
  rintro⟨m23,z195,l196⟩ ⟨hm23,h⟩
  replace hm23:m23≤m22:=hm23
  obtain _ | m23:=m23
  ·replace h:L62_23 0 z82 l83 l84 l95 b194 z195 l196=some r:=h
   rw[L62_23]at h
   cases h
  replace h:L62_23 (m23+1) z82 l83 l84 l95 b194 z195 l196=some r:=h
  rw[L62_23]at h
  try cbv
  refine seq_go ?_
  try cbv
  refine seq_join (T:=Nat×Bool) (fun t=>⟨[(6,.v (.d (.bool false))),(7,.v (.c (.ptr (.loc 64) 0))),(11,.v (.c (.ptr (.loc 288) 0))),(16,.v (.d (.bool b194))),(17,.v (.d (.int .i64 z195))),(169,.v (.d (.bool t.2)))],[(.ext 0,.cells [.ow (.ext 1),.d (.int .i64 z82)]),(.ext 1,.tree (.fmap true) true 8 l83 none),(.ext 2,.cells [.ow (.ext 3)]),(.ext 3,.tree .flat true 7 l95 none),(.loc 64,.cells [.d (.int .u8 z77),.d (.int .i64 z78),.d (.str s79),.ow (.loc 992),.d (.int .i64 z80),.ow (.loc 993)]),(.loc 992,.tree .row true 6 l196 none),(.loc 993,.tree .row false 1 l87 none),(.loc 288,.cells [.d (.int .u8 z13),.d (.int .i64 z14),.d (.str s15),.ow (.loc 256),.d (.int .i64 z16),.ow (.loc 257)]),(.loc 256,.tree .row true 6 l84 none),(.loc 257,.tree .row false 1 l85 none)],2304⟩) (fun t=>t.1≤m23∧L62_24 t.1 z82 l83 l84 l95 b194 z195 l196 t.2=some r) ?_ ?_
  ·try cbv
   replace h:=lenF_inv M h
   obtain⟨z197,hz,h⟩:=h
   refine⟨false,?_⟩
   try cbv
   refine⟨z197,hz,?_⟩
   clear hz
   try cbv
   refine splitL (fun e=>?_) (fun e=>?_)
   ·replace h:=ite_t e h
    clear e
    try cbv
    exact join_next (m23,true) [6,7,11,16,17,169] [.ext 0,.ext 1,.ext 2,.ext 3,.loc 64,.loc 992,.loc 993,.loc 288,.loc 256,.loc 257] 2304 ⟨by omega,h⟩ (by cbv)
   replace h:=ite_f (Int.not_lt.2 e) h
   clear e
   try cbv
   exact join_next (m23,false) [6,7,11,16,17,169] [.ext 0,.ext 1,.ext 2,.ext 3,.loc 64,.loc 992,.loc 993,.loc 288,.loc 256,.loc 257] 2304 ⟨by omega,h⟩ (by cbv)
  clear h
  rintro⟨m24,b198⟩ ⟨hm24,h⟩
  replace hm24:m24≤m23:=hm24
  obtain _ | m24:=m24
  ·replace h:L62_24 0 z82 l83 l84 l95 b194 z195 l196 b198=some r:=h
   rw[L62_24]at h
   cases h
  replace h:L62_24 (m24+1) z82 l83 l84 l95 b194 z195 l196 b198=some r:=h
  rw[L62_24]at h
  try cbv
  cases b198
  rotate_left
  ·replace h:=ite_t rfl h
   try cbv
   refine seq_go ?_
   try cbv
   replace h:=needF_inv h
   obtain⟨hn,h⟩:=h
   refine⟨(M.lock_iff _).2 hn,?_⟩
   clear hn
   try cbv
   refine⟨[],?_⟩
   try cbv
   replace h:=getN_inv h
   obtain⟨x199,hx,h⟩:=h
   replace h:=ds_t49_inv h
   obtain⟨z200,z201,s202,l203,z204,l205,rfl,h⟩:=h
   refine⟨_,hx,?_⟩
   clear hx
   try cbv
   replace h:=letF_inv h
   obtain⟨z206,hz,h⟩:=h
   refine⟨z206,hz,?_⟩
   clear hz
   try cbv
   replace h:=setF_inv h
   obtain⟨l207,hl207,h⟩:=h
   refine loop_nextG (m24,(z206,l207)) [.close (.loc 992)] [] [6,7,11,16,17] [.ext 0,.ext 1,.ext 2,.ext 3,.loc 64,.loc 992,.loc 993,.loc 288,.loc 256,.loc 257] 2144 ⟨by omega,h⟩ (Nat.lt_succ_of_le (by omega)) ?_
   try cbv
   refine⟨l207,hl207,?_⟩
   clear hl207
   try cbv
   first | done | exact rfl | cbv
  replace h:=ite_f Bool.false_ne_true h
  try cbv
  refine seq_go ?_
  try cbv
  refine seq_go ?_
  try cbv
  refine loop_invG (T:=Nat×Int×List D) [] [] [6,11,16,18] [.ext 0,.ext 1,.ext 2,.ext 3,.loc 288,.loc 256,.loc 257] 2336 (fun t=>⟨[(6,.v (.d (.bool false))),(11,.v (.c (.ptr (.loc 288) 0))),(16,.v (.d (.bool b194))),(18,.v (.d (.int .i64 t.2.1)))],[(.ext 0,.cells [.ow (.ext 1),.d (.int .i64 z82)]),(.ext 1,.tree (.fmap true) true 8 l83 none),(.ext 2,.cells [.ow (.ext 3)]),(.ext 3,.tree .flat true 7 l95 none),(.loc 288,.cells [.d (.int .u8 z13),.d (.int .i64 z14),.d (.str s15),.ow (.loc 256),.d (.int .i64 z16),.ow (.loc 257)]),(.loc 256,.tree .row true 6 t.2.2 none),(.loc 257,.tree .row false 1 l85 none)],2336⟩)
    (fun t=>t.1≤m24∧L62_25 t.1 z82 l83 l95 b194 t.2.1 t.2.2=some r) (fun t=>t.1) (m24,((0:Int),l84)) ⟨Nat.le_refl _,h⟩ (by cbv) ?_
  clear h
  rintro⟨m25,z208,l209⟩ ⟨hm25,h⟩
  replace hm25:m25≤m24:=hm25
  obtain _ | m25:=m25
  ·replace h:L62_25 0 z82 l83 l95 b194 z208 l209=some r:=h
   rw[L62_25]at h
   cases h
  replace h:L62_25 (m25+1) z82 l83 l95 b194 z208 l209=some r:=h
  rw[L62_25]at h
  try cbv
  refine seq_go ?_
  try cbv
  refine seq_join (T:=Nat×Bool) (fun t=>⟨[(6,.v (.d (.bool false))),(11,.v (.c (.ptr (.loc 288) 0))),(16,.v (.d (.bool b194))),(18,.v (.d (.int .i64 z208))),(181,.v (.d (.bool t.2)))],[(.ext 0,.cells [.ow (.ext 1),.d (.int .i64 z82)]),(.ext 1,.tree (.fmap true) true 8 l83 none),(.ext 2,.cells [.ow (.ext 3)]),(.ext 3,.tree .flat true 7 l95 none),(.loc 288,.cells [.d (.int .u8 z13),.d (.int .i64 z14),.d (.str s15),.ow (.loc 256),.d (.int .i64 z16),.ow (.loc 257)]),(.loc 256,.tree .row true 6 l209 none),(.loc 257,.tree .row false 1 l85 none)],2496⟩) (fun t=>t.1≤m25∧L62_26 t.1 z82 l83 l95 b194 z208 l209 t.2=some r) ?_ ?_
  ·try cbv
   replace h:=lenF_inv M h
   obtain⟨z210,hz,h⟩:=h
   refine⟨false,?_⟩
   try cbv
   refine⟨z210,hz,?_⟩
   clear hz
   try cbv
   refine splitL (fun e=>?_) (fun e=>?_)
   ·replace h:=ite_t e h
    clear e
    try cbv
    exact join_next (m25,true) [6,11,16,18,181] [.ext 0,.ext 1,.ext 2,.ext 3,.loc 288,.loc 256,.loc 257] 2496 ⟨by omega,h⟩ (by cbv)
   replace h:=ite_f (Int.not_lt.2 e) h
   clear e
   try cbv
   exact join_next (m25,false) [6,11,16,18,181] [.ext 0,.ext 1,.ext 2,.ext 3,.loc 288,.loc 256,.loc 257] 2496 ⟨by omega,h⟩ (by cbv)
  clear h
  rintro⟨m26,b211⟩ ⟨hm26,h⟩
  replace hm26:m26≤m25:=hm26
  obtain _ | m26:=m26
  ·replace h:L62_26 0 z82 l83 l95 b194 z208 l209 b211=some r:=h
   rw[L62_26]at h
   cases h
  replace h:L62_26 (m26+1) z82 l83 l95 b194 z208 l209 b211=some r:=h
  rw[L62_26]at h
  try cbv
  cases b211
  ·replace h:=ite_f Bool.false_ne_true h
   try cbv
   refine seq_go ?_
   try cbv
   obtain rfl:=Option.some.inj h
   refine finQ_go hQ ?_
   try cbv
   exact⟨[],rfl,rfl,⟨rfl,⟨rfl,⟨rfl,⟨rfl,trivial⟩⟩⟩⟩,trivial,trivial⟩
  replace h:=ite_t rfl h
  try cbv
  refine seq_go ?_
  try cbv
  replace h:=needF_inv h
  obtain⟨hn,h⟩:=h
  refine⟨(M.lock_iff _).2 hn,?_⟩
  clear hn
  try cbv
  refine⟨[],?_⟩
  try cbv
  replace h:=getN_inv h
  obtain⟨x212,hx,h⟩:=h
  replace h:=ds_t49_inv h
  obtain⟨z213,z214,s215,l216,z217,l218,rfl,h⟩:=h
  refine⟨_,hx,?_⟩
  clear hx
  try cbv
  replace h:=letF_inv h
  obtain⟨z219,hz,h⟩:=h
  refine⟨z219,hz,?_⟩
  clear hz
  try cbv
  replace h:=setF_inv h
  obtain⟨l220,hl220,h⟩:=h
  refine loop_nextG (m26,(z219,l220)) [.close (.loc 256)] [] [6,11,16,18] [.ext 0,.ext 1,.ext 2,.ext 3,.loc 288,.loc 256,.loc 257] 2336 ⟨by omega,h⟩ (Nat.lt_succ_of_le (by omega)) ?_
  try cbv
  refine⟨l220,hl220,?_⟩
  clear hl220
  try cbv
  first | done | exact rfl | cbv
 replace h:=ite_f Bool.false_ne_true h
 try cbv
 refine seq_join (T:=Nat×Bool) (fun t=>⟨[(0,.v (.c (.ptr (.ext 0) 0))),(1,.v (.c (.ptr (.ext 2) 0))),(5,.v (.c (.ptr (.loc 0) 0))),(6,.v (.d (.bool false))),(7,.v (.c (.ptr (.loc 64) 0))),(8,.v (.c (.ptr (.loc 96) 0))),(9,.v (.d (.int .u8 0))),(10,.v (.d (.int .i64 0))),(11,.v (.c (.ptr (.loc 288) 0))),(134,.v (.d (.bool t.2)))],[(.ext 0,.cells [.ow (.ext 1),.d (.int .i64 z10)]),(.ext 1,.tree (.fmap true) true 8 l11 none),(.ext 2,.cells [.ow (.ext 3)]),(.ext 3,.tree .flat true 7 l12 none),(.loc 0,.cells [.d (.int .i64 z1),.d (.int .i64 z2),.d (.list false 1 l3),.d (.int .u8 z4),.d (.int .i64 z5),.d (.str s6),.d (.list true 6 l7),.d (.int .i64 z8),.d (.list false 1 l9)]),(.loc 64,.cells [.d (.int .u8 0),.d (.int .i64 0),.d (.str ByteArray.empty),.nils true 6,.d (.int .i64 0),.nils false 1]),(.loc 96,.cells [.d (.int .u8 0),.d (.int .i64 0),.d (.str ByteArray.empty),.nils true 6,.d (.int .i64 0),.nils false 1]),(.loc 288,.cells [.d (.int .u8 z13),.d (.int .i64 z14),.d (.str s15),.ow (.loc 256),.d (.int .i64 z16),.ow (.loc 257)]),(.loc 256,.tree .row true 6 l17 none),(.loc 257,.tree .row false 1 l18 none)],864⟩) (fun t=>t.1≤m6∧L62_7 t.1 z2 z4 z5 s6 l7 z8 l9 z10 l11 l12 z13 z14 s15 z16 l17 l18 t.2=some r) ?_ ?_
 ·try cbv
  refine splitI (fun e=>?_) (fun e=>?_)
  ·replace h:=ite_t e h
   clear e
   try cbv
   exact join_next (m6,true) [0,1,5,6,7,8,9,10,11,134] [.ext 0,.ext 1,.ext 2,.ext 3,.loc 0,.loc 64,.loc 96,.loc 288,.loc 256,.loc 257] 864 ⟨by omega,h⟩ (by cbv)
  replace h:=ite_f e h
  clear e
  try cbv
  exact join_next (m6,false) [0,1,5,6,7,8,9,10,11,134] [.ext 0,.ext 1,.ext 2,.ext 3,.loc 0,.loc 64,.loc 96,.loc 288,.loc 256,.loc 257] 864 ⟨by omega,h⟩ (by cbv)
 clear h
 rintro⟨m7,b96⟩ ⟨hm7,h⟩
 replace hm7:m7≤m6:=hm7
 obtain _ | m7:=m7
 ·replace h:L62_7 0 z2 z4 z5 s6 l7 z8 l9 z10 l11 l12 z13 z14 s15 z16 l17 l18 b96=some r:=h
  rw[L62_7]at h
  cases h
 replace h:L62_7 (m7+1) z2 z4 z5 s6 l7 z8 l9 z10 l11 l12 z13 z14 s15 z16 l17 l18 b96=some r:=h
 rw[L62_7]at h
 try cbv
 cases b96
 ·replace h:=ite_f Bool.false_ne_true h
  try cbv
  refine seq_join (T:=Nat×Bool) (fun t=>⟨[(6,.v (.d (.bool false))),(7,.v (.c (.ptr (.loc 64) 0))),(11,.v (.c (.ptr (.loc 288) 0))),(16,.v (.d (.bool t.2)))],[(.ext 0,.cells [.ow (.ext 1),.d (.int .i64 z10)]),(.ext 1,.tree (.fmap true) true 8 l11 none),(.ext 2,.cells [.ow (.ext 3)]),(.ext 3,.tree .flat true 7 l12 none),(.loc 64,.cells [.d (.int .u8 0),.d (.int .i64 0),.d (.str ByteArray.empty),.nils true 6,.d (.int .i64 0),.nils false 1]),(.loc 288,.cells [.d (.int .u8 z13),.d (.int .i64 z14),.d (.str s15),.ow (.loc 256),.d (.int .i64 z16),.ow (.loc 257)]),(.loc 256,.tree .row true 6 l17 none),(.loc 257,.tree .row false 1 l18 none)],1376⟩) (fun t=>t.1≤m7∧L62_32 t.1 z10 l11 l12 l17 t.2=some r) ?_ ?_
  ·try cbv
   replace h:=bO1_inv h
   obtain⟨b251,hr,h⟩:=h
   refine call_go rfl rfl ?_
   try cbv
   refine call_pure hM hI (T34 _ hr) rfl ?_
   clear hr
   try cbv
   cases b251
   ·replace h:=ite_f Bool.false_ne_true h
    try cbv
    exact join_next (m7,false) [6,7,11,16] [.ext 0,.ext 1,.ext 2,.ext 3,.loc 64,.loc 288,.loc 256,.loc 257] 1376 ⟨by omega,h⟩ (by cbv)
   replace h:=ite_t rfl h
   try cbv
   replace h:=letF_inv h
   obtain⟨z252,hz,h⟩:=h
   refine⟨z252,hz,?_⟩
   clear hz
   try cbv
   refine splitI (fun e=>?_) (fun e=>?_)
   ·replace h:=ite_t e h
    clear e
    try cbv
    replace h:=bO1_inv h
    obtain⟨b253,hr,h⟩:=h
    refine call_go rfl rfl ?_
    try cbv
    refine call_with hM hI [.loc 256,.loc 257] (Trip.lend (targs':=[.agg [.d (.int .u8 z13),.d (.int .i64 z14),.d (.str s15),.ow (.ext 0),.d (.int .i64 z16),.ow (.ext 1)],.d (.agg [.int .u8 z4,.int .i64 z5,.str s6,.list true 6 l7,.int .i64 z8,.list false 1 l9])]) (T34 _ hr) [.tree .row true 6 l17 none,.tree .row false 1 l18 none] rfl rfl rfl rfl rfl rfl) rfl (by simp) ⟨rfl,⟨rfl,trivial⟩⟩ ⟨trivial,⟨trivial,trivial⟩⟩ (by simp) ?_
    clear hr
    try cbv
    exact join_next (m7,b253) [6,7,11,16] [.ext 0,.ext 1,.ext 2,.ext 3,.loc 64,.loc 288,.loc 256,.loc 257] 1376 ⟨by omega,h⟩ (by cbv)
   replace h:=ite_f e h
   clear e
   try cbv
   exact join_next (m7,false) [6,7,11,16] [.ext 0,.ext 1,.ext 2,.ext 3,.loc 64,.loc 288,.loc 256,.loc 257] 1376 ⟨by omega,h⟩ (by cbv)
  clear h
  rintro⟨m32,b254⟩ ⟨hm32,h⟩
  replace hm32:m32≤m7:=hm32
  obtain _ | m32:=m32
  ·replace h:L62_32 0 z10 l11 l12 l17 b254=some r:=h
   rw[L62_32]at h
   cases h
  replace h:L62_32 (m32+1) z10 l11 l12 l17 b254=some r:=h
  rw[L62_32]at h
  try cbv
  refine seq_go ?_
  try cbv
  refine seq_go ?_
  try cbv
  refine loop_invG (T:=Nat×Unit) [] [] [6,7,11,16,17] [.ext 0,.ext 1,.ext 2,.ext 3,.loc 64,.loc 288,.loc 256,.loc 257] 1408 (fun t=>⟨[(6,.v (.d (.bool false))),(7,.v (.c (.ptr (.loc 64) 0))),(11,.v (.c (.ptr (.loc 288) 0))),(16,.v (.d (.bool b254))),(17,.v (.d (.int .i64 0)))],[(.ext 0,.cells [.ow (.ext 1),.d (.int .i64 z10)]),(.ext 1,.tree (.fmap true) true 8 l11 none),(.ext 2,.cells [.ow (.ext 3)]),(.ext 3,.tree .flat true 7 l12 none),(.loc 64,.cells [.d (.int .u8 0),.d (.int .i64 0),.d (.str ByteArray.empty),.nils true 6,.d (.int .i64 0),.nils false 1]),(.loc 288,.cells [.d (.int .u8 z13),.d (.int .i64 z14),.d (.str s15),.ow (.loc 256),.d (.int .i64 z16),.ow (.loc 257)]),(.loc 256,.tree .row true 6 l17 none),(.loc 257,.tree .row false 1 l18 none)],1408⟩)
    (fun t=>t.1≤m32∧L62_33 t.1 z10 l11 l12 l17 b254=some r) (fun t=>t.1) (m32,()) ⟨Nat.le_refl _,h⟩ (by cbv) ?_
  clear h
  rintro⟨m33,_⟩ ⟨hm33,h⟩
  replace hm33:m33≤m32:=hm33
  obtain _ | m33:=m33
  ·replace h:L62_33 0 z10 l11 l12 l17 b254=some r:=h
   rw[L62_33]at h
   cases h
  replace h:L62_33 (m33+1) z10 l11 l12 l17 b254=some r:=h
  rw[L62_33]at h
  try cbv
  refine seq_go ?_
  try cbv
  refine seq_go ?_
  try cbv
  refine⟨0,(M.lenI_eq _).trans rfl,?_⟩
  try cbv
  refine splitL_f (by decide) ?_
  try cbv
  refine seq_go ?_
  try cbv
  refine seq_go ?_
  try cbv
  refine loop_invG (T:=Nat×Int×List D) [] [] [6,11,16,18] [.ext 0,.ext 1,.ext 2,.ext 3,.loc 288,.loc 256,.loc 257] 1600 (fun t=>⟨[(6,.v (.d (.bool false))),(11,.v (.c (.ptr (.loc 288) 0))),(16,.v (.d (.bool b254))),(18,.v (.d (.int .i64 t.2.1)))],[(.ext 0,.cells [.ow (.ext 1),.d (.int .i64 z10)]),(.ext 1,.tree (.fmap true) true 8 l11 none),(.ext 2,.cells [.ow (.ext 3)]),(.ext 3,.tree .flat true 7 l12 none),(.loc 288,.cells [.d (.int .u8 z13),.d (.int .i64 z14),.d (.str s15),.ow (.loc 256),.d (.int .i64 z16),.ow (.loc 257)]),(.loc 256,.tree .row true 6 t.2.2 none),(.loc 257,.tree .row false 1 l18 none)],1600⟩)
    (fun t=>t.1≤m33∧L62_34 t.1 z10 l11 l12 b254 t.2.1 t.2.2=some r) (fun t=>t.1) (m33,((0:Int),l17)) ⟨Nat.le_refl _,h⟩ (by cbv) ?_
  clear h
  rintro⟨m34,z255,l256⟩ ⟨hm34,h⟩
  replace hm34:m34≤m33:=hm34
  obtain _ | m34:=m34
  ·replace h:L62_34 0 z10 l11 l12 b254 z255 l256=some r:=h
   rw[L62_34]at h
   cases h
  replace h:L62_34 (m34+1) z10 l11 l12 b254 z255 l256=some r:=h
  rw[L62_34]at h
  try cbv
  refine seq_go ?_
  try cbv
  refine seq_join (T:=Nat×Bool) (fun t=>⟨[(6,.v (.d (.bool false))),(11,.v (.c (.ptr (.loc 288) 0))),(16,.v (.d (.bool b254))),(18,.v (.d (.int .i64 z255))),(181,.v (.d (.bool t.2)))],[(.ext 0,.cells [.ow (.ext 1),.d (.int .i64 z10)]),(.ext 1,.tree (.fmap true) true 8 l11 none),(.ext 2,.cells [.ow (.ext 3)]),(.ext 3,.tree .flat true 7 l12 none),(.loc 288,.cells [.d (.int .u8 z13),.d (.int .i64 z14),.d (.str s15),.ow (.loc 256),.d (.int .i64 z16),.ow (.loc 257)]),(.loc 256,.tree .row true 6 l256 none),(.loc 257,.tree .row false 1 l18 none)],1760⟩) (fun t=>t.1≤m34∧L62_35 t.1 z10 l11 l12 b254 z255 l256 t.2=some r) ?_ ?_
  ·try cbv
   replace h:=lenF_inv M h
   obtain⟨z257,hz,h⟩:=h
   refine⟨false,?_⟩
   try cbv
   refine⟨z257,hz,?_⟩
   clear hz
   try cbv
   refine splitL (fun e=>?_) (fun e=>?_)
   ·replace h:=ite_t e h
    clear e
    try cbv
    exact join_next (m34,true) [6,11,16,18,181] [.ext 0,.ext 1,.ext 2,.ext 3,.loc 288,.loc 256,.loc 257] 1760 ⟨by omega,h⟩ (by cbv)
   replace h:=ite_f (Int.not_lt.2 e) h
   clear e
   try cbv
   exact join_next (m34,false) [6,11,16,18,181] [.ext 0,.ext 1,.ext 2,.ext 3,.loc 288,.loc 256,.loc 257] 1760 ⟨by omega,h⟩ (by cbv)
  clear h
  rintro⟨m35,b258⟩ ⟨hm35,h⟩
  replace hm35:m35≤m34:=hm35
  obtain _ | m35:=m35
  ·replace h:L62_35 0 z10 l11 l12 b254 z255 l256 b258=some r:=h
   rw[L62_35]at h
   cases h
  replace h:L62_35 (m35+1) z10 l11 l12 b254 z255 l256 b258=some r:=h
  rw[L62_35]at h
  try cbv
  cases b258
  ·replace h:=ite_f Bool.false_ne_true h
   try cbv
   refine seq_go ?_
   try cbv
   obtain rfl:=Option.some.inj h
   refine finQ_go hQ ?_
   try cbv
   exact⟨[],rfl,rfl,⟨rfl,⟨rfl,⟨rfl,⟨rfl,trivial⟩⟩⟩⟩,trivial,trivial⟩
  replace h:=ite_t rfl h
  try cbv
  refine seq_go ?_
  try cbv
  replace h:=needF_inv h
  obtain⟨hn,h⟩:=h
  refine⟨(M.lock_iff _).2 hn,?_⟩
  clear hn
  try cbv
  refine⟨[],?_⟩
  try cbv
  replace h:=getN_inv h
  obtain⟨x259,hx,h⟩:=h
  replace h:=ds_t49_inv h
  obtain⟨z260,z261,s262,l263,z264,l265,rfl,h⟩:=h
  refine⟨_,hx,?_⟩
  clear hx
  try cbv
  replace h:=letF_inv h
  obtain⟨z266,hz,h⟩:=h
  refine⟨z266,hz,?_⟩
  clear hz
  try cbv
  replace h:=setF_inv h
  obtain⟨l267,hl267,h⟩:=h
  refine loop_nextG (m35,(z266,l267)) [.close (.loc 256)] [] [6,11,16,18] [.ext 0,.ext 1,.ext 2,.ext 3,.loc 288,.loc 256,.loc 257] 1600 ⟨by omega,h⟩ (Nat.lt_succ_of_le (by omega)) ?_
  try cbv
  refine⟨l267,hl267,?_⟩
  clear hl267
  try cbv
  first | done | exact rfl | cbv
 replace h:=ite_t rfl h
 try cbv
 refine seq_go ?_
 try cbv
 replace h:=bO9_inv h
 obtain⟨z97,z98,s99,z100,z101,z102,l103,l104,l105,hr,h⟩:=h
 refine call_go rfl rfl ?_
 try cbv
 refine call_with hM hI [.ext 0,.ext 1] (T54 _ hr) rfl (by simp) ⟨rfl,⟨rfl,trivial⟩⟩ ⟨trivial,⟨trivial,trivial⟩⟩ (by simp) ?_
 clear hr
 try cbv
 replace h:=bO8_inv h
 obtain⟨z106,z107,s108,l109,z110,l111,z112,l113,hr,h⟩:=h
 refine call_go rfl rfl ?_
 try cbv
 refine call_with hM hI [.ext 2,.ext 3] (T118 _ hr) rfl (by simp) ⟨rfl,⟨rfl,trivial⟩⟩ ⟨trivial,⟨trivial,trivial⟩⟩ (by simp) ?_
 clear hr
 try cbv
 refine seq_join (T:=Nat×Bool) (fun t=>⟨[(6,.v (.d (.bool false))),(7,.v (.c (.ptr (.loc 64) 0))),(11,.v (.c (.ptr (.loc 288) 0))),(16,.v (.d (.bool t.2)))],[(.ext 0,.cells [.ow (.ext 1),.d (.int .i64 z102)]),(.ext 1,.tree (.fmap true) true 8 l103 none),(.ext 2,.cells [.ow (.ext 3)]),(.ext 3,.tree .flat true 7 l113 none),(.loc 64,.cells [.d (.int .u8 z97),.d (.int .i64 z98),.d (.str s99),.ow (.loc 960),.d (.int .i64 z100),.ow (.loc 961)]),(.loc 960,.tree .row true 6 l104 none),(.loc 961,.tree .row false 1 l105 none),(.loc 288,.cells [.d (.int .u8 z13),.d (.int .i64 z14),.d (.str s15),.ow (.loc 256),.d (.int .i64 z16),.ow (.loc 257)]),(.loc 256,.tree .row true 6 l17 none),(.loc 257,.tree .row false 1 l18 none)],1952⟩) (fun t=>t.1≤m7∧L62_27 t.1 l17 z102 l103 l104 l113 t.2=some r) ?_ ?_
 ·try cbv
  replace h:=bO1_inv h
  obtain⟨b221,hr,h⟩:=h
  refine call_go rfl rfl ?_
  try cbv
  refine call_with hM hI [.loc 960,.loc 961] (Trip.lend (targs':=[.agg [.d (.int .u8 z97),.d (.int .i64 z98),.d (.str s99),.ow (.ext 0),.d (.int .i64 z100),.ow (.ext 1)],.d (.agg [.int .u8 z106,.int .i64 z107,.str s108,.list true 6 l109,.int .i64 z110,.list false 1 l111])]) (T34 _ hr) [.tree .row true 6 l104 none,.tree .row false 1 l105 none] rfl rfl rfl rfl rfl rfl) rfl (by simp) ⟨rfl,⟨rfl,trivial⟩⟩ ⟨trivial,⟨trivial,trivial⟩⟩ (by simp) ?_
  clear hr
  try cbv
  cases b221
  ·replace h:=ite_f Bool.false_ne_true h
   try cbv
   exact join_next (m7,false) [6,7,11,16] [.ext 0,.ext 1,.ext 2,.ext 3,.loc 64,.loc 960,.loc 961,.loc 288,.loc 256,.loc 257] 1952 ⟨by omega,h⟩ (by cbv)
  replace h:=ite_t rfl h
  try cbv
  replace h:=letF_inv h
  obtain⟨z222,hz,h⟩:=h
  refine⟨z222,hz,?_⟩
  clear hz
  try cbv
  refine splitI (fun e=>?_) (fun e=>?_)
  ·replace h:=ite_t e h
   clear e
   try cbv
   replace h:=bO1_inv h
   obtain⟨b223,hr,h⟩:=h
   refine call_go rfl rfl ?_
   try cbv
   refine call_with hM hI [.loc 256,.loc 257] (Trip.lend (targs':=[.agg [.d (.int .u8 z13),.d (.int .i64 z14),.d (.str s15),.ow (.ext 0),.d (.int .i64 z16),.ow (.ext 1)],.d (.agg [.int .u8 z4,.int .i64 z5,.str s6,.list true 6 l7,.int .i64 z8,.list false 1 l9])]) (T34 _ hr) [.tree .row true 6 l17 none,.tree .row false 1 l18 none] rfl rfl rfl rfl rfl rfl) rfl (by simp) ⟨rfl,⟨rfl,trivial⟩⟩ ⟨trivial,⟨trivial,trivial⟩⟩ (by simp) ?_
   clear hr
   try cbv
   exact join_next (m7,b223) [6,7,11,16] [.ext 0,.ext 1,.ext 2,.ext 3,.loc 64,.loc 960,.loc 961,.loc 288,.loc 256,.loc 257] 1952 ⟨by omega,h⟩ (by cbv)
  replace h:=ite_f e h
  clear e
  try cbv
  exact join_next (m7,false) [6,7,11,16] [.ext 0,.ext 1,.ext 2,.ext 3,.loc 64,.loc 960,.loc 961,.loc 288,.loc 256,.loc 257] 1952 ⟨by omega,h⟩ (by cbv)
 clear h
 rintro⟨m27,b224⟩ ⟨hm27,h⟩
 replace hm27:m27≤m7:=hm27
 obtain _ | m27:=m27
 ·replace h:L62_27 0 l17 z102 l103 l104 l113 b224=some r:=h
  rw[L62_27]at h
  cases h
 replace h:L62_27 (m27+1) l17 z102 l103 l104 l113 b224=some r:=h
 rw[L62_27]at h
 try cbv
 refine seq_go ?_
 try cbv
 refine seq_go ?_
 try cbv
 refine loop_invG (T:=Nat×Int×List D) [] [] [6,7,11,16,17] [.ext 0,.ext 1,.ext 2,.ext 3,.loc 64,.loc 960,.loc 961,.loc 288,.loc 256,.loc 257] 1984 (fun t=>⟨[(6,.v (.d (.bool false))),(7,.v (.c (.ptr (.loc 64) 0))),(11,.v (.c (.ptr (.loc 288) 0))),(16,.v (.d (.bool b224))),(17,.v (.d (.int .i64 t.2.1)))],[(.ext 0,.cells [.ow (.ext 1),.d (.int .i64 z102)]),(.ext 1,.tree (.fmap true) true 8 l103 none),(.ext 2,.cells [.ow (.ext 3)]),(.ext 3,.tree .flat true 7 l113 none),(.loc 64,.cells [.d (.int .u8 z97),.d (.int .i64 z98),.d (.str s99),.ow (.loc 960),.d (.int .i64 z100),.ow (.loc 961)]),(.loc 960,.tree .row true 6 t.2.2 none),(.loc 961,.tree .row false 1 l105 none),(.loc 288,.cells [.d (.int .u8 z13),.d (.int .i64 z14),.d (.str s15),.ow (.loc 256),.d (.int .i64 z16),.ow (.loc 257)]),(.loc 256,.tree .row true 6 l17 none),(.loc 257,.tree .row false 1 l18 none)],1984⟩)
   (fun t=>t.1≤m27∧L62_28 t.1 l17 z102 l103 l113 b224 t.2.1 t.2.2=some r) (fun t=>t.1) (m27,((0:Int),l104)) ⟨Nat.le_refl _,h⟩ (by cbv) ?_
 clear h
 rintro⟨m28,z225,l226⟩ ⟨hm28,h⟩
 replace hm28:m28≤m27:=hm28
 obtain _ | m28:=m28
 ·replace h:L62_28 0 l17 z102 l103 l113 b224 z225 l226=some r:=h
  rw[L62_28]at h
  cases h
 replace h:L62_28 (m28+1) l17 z102 l103 l113 b224 z225 l226=some r:=h
 rw[L62_28]at h
 try cbv
 refine seq_go ?_
 try cbv
 refine seq_join (T:=Nat×Bool) (fun t=>⟨[(6,.v (.d (.bool false))),(7,.v (.c (.ptr (.loc 64) 0))),(11,.v (.c (.ptr (.loc 288) 0))),(16,.v (.d (.bool b224))),(17,.v (.d (.int .i64 z225))),(169,.v (.d (.bool t.2)))],[(.ext 0,.cells [.ow (.ext 1),.d (.int .i64 z102)]),(.ext 1,.tree (.fmap true) true 8 l103 none),(.ext 2,.cells [.ow (.ext 3)]),(.ext 3,.tree .flat true 7 l113 none),(.loc 64,.cells [.d (.int .u8 z97),.d (.int .i64 z98),.d (.str s99),.ow (.loc 960),.d (.int .i64 z100),.ow (.loc 961)]),(.loc 960,.tree .row true 6 l226 none),(.loc 961,.tree .row false 1 l105 none),(.loc 288,.cells [.d (.int .u8 z13),.d (.int .i64 z14),.d (.str s15),.ow (.loc 256),.d (.int .i64 z16),.ow (.loc 257)]),(.loc 256,.tree .row true 6 l17 none),(.loc 257,.tree .row false 1 l18 none)],2144⟩) (fun t=>t.1≤m28∧L62_29 t.1 l17 z102 l103 l113 b224 z225 l226 t.2=some r) ?_ ?_
 ·try cbv
  replace h:=lenF_inv M h
  obtain⟨z227,hz,h⟩:=h
  refine⟨false,?_⟩
  try cbv
  refine⟨z227,hz,?_⟩
  clear hz
  try cbv
  refine splitL (fun e=>?_) (fun e=>?_)
  ·replace h:=ite_t e h
   clear e
   try cbv
   exact join_next (m28,true) [6,7,11,16,17,169] [.ext 0,.ext 1,.ext 2,.ext 3,.loc 64,.loc 960,.loc 961,.loc 288,.loc 256,.loc 257] 2144 ⟨by omega,h⟩ (by cbv)
  replace h:=ite_f (Int.not_lt.2 e) h
  clear e
  try cbv
  exact join_next (m28,false) [6,7,11,16,17,169] [.ext 0,.ext 1,.ext 2,.ext 3,.loc 64,.loc 960,.loc 961,.loc 288,.loc 256,.loc 257] 2144 ⟨by omega,h⟩ (by cbv)
 clear h
 rintro⟨m29,b228⟩ ⟨hm29,h⟩
 replace hm29:m29≤m28:=hm29
 obtain _ | m29:=m29
 ·replace h:L62_29 0 l17 z102 l103 l113 b224 z225 l226 b228=some r:=h
  rw[L62_29]at h
  cases h
 replace h:L62_29 (m29+1) l17 z102 l103 l113 b224 z225 l226 b228=some r:=h
 rw[L62_29]at h
 try cbv
 cases b228
 rotate_left
 ·replace h:=ite_t rfl h
  try cbv
  refine seq_go ?_
  try cbv
  replace h:=needF_inv h
  obtain⟨hn,h⟩:=h
  refine⟨(M.lock_iff _).2 hn,?_⟩
  clear hn
  try cbv
  refine⟨[],?_⟩
  try cbv
  replace h:=getN_inv h
  obtain⟨x229,hx,h⟩:=h
  replace h:=ds_t49_inv h
  obtain⟨z230,z231,s232,l233,z234,l235,rfl,h⟩:=h
  refine⟨_,hx,?_⟩
  clear hx
  try cbv
  replace h:=letF_inv h
  obtain⟨z236,hz,h⟩:=h
  refine⟨z236,hz,?_⟩
  clear hz
  try cbv
  replace h:=setF_inv h
  obtain⟨l237,hl237,h⟩:=h
  refine loop_nextG (m29,(z236,l237)) [.close (.loc 960)] [] [6,7,11,16,17] [.ext 0,.ext 1,.ext 2,.ext 3,.loc 64,.loc 960,.loc 961,.loc 288,.loc 256,.loc 257] 1984 ⟨by omega,h⟩ (Nat.lt_succ_of_le (by omega)) ?_
  try cbv
  refine⟨l237,hl237,?_⟩
  clear hl237
  try cbv
  first | done | exact rfl | cbv
 replace h:=ite_f Bool.false_ne_true h
 try cbv
 refine seq_go ?_
 try cbv
 refine seq_go ?_
 try cbv
 refine loop_invG (T:=Nat×Int×List D) [] [] [6,11,16,18] [.ext 0,.ext 1,.ext 2,.ext 3,.loc 288,.loc 256,.loc 257] 2176 (fun t=>⟨[(6,.v (.d (.bool false))),(11,.v (.c (.ptr (.loc 288) 0))),(16,.v (.d (.bool b224))),(18,.v (.d (.int .i64 t.2.1)))],[(.ext 0,.cells [.ow (.ext 1),.d (.int .i64 z102)]),(.ext 1,.tree (.fmap true) true 8 l103 none),(.ext 2,.cells [.ow (.ext 3)]),(.ext 3,.tree .flat true 7 l113 none),(.loc 288,.cells [.d (.int .u8 z13),.d (.int .i64 z14),.d (.str s15),.ow (.loc 256),.d (.int .i64 z16),.ow (.loc 257)]),(.loc 256,.tree .row true 6 t.2.2 none),(.loc 257,.tree .row false 1 l18 none)],2176⟩)
   (fun t=>t.1≤m29∧L62_30 t.1 z102 l103 l113 b224 t.2.1 t.2.2=some r) (fun t=>t.1) (m29,((0:Int),l17)) ⟨Nat.le_refl _,h⟩ (by cbv) ?_
 clear h
 rintro⟨m30,z238,l239⟩ ⟨hm30,h⟩
 replace hm30:m30≤m29:=hm30
 obtain _ | m30:=m30
 ·replace h:L62_30 0 z102 l103 l113 b224 z238 l239=some r:=h
  rw[L62_30]at h
  cases h
 replace h:L62_30 (m30+1) z102 l103 l113 b224 z238 l239=some r:=h
 rw[L62_30]at h
 try cbv
 refine seq_go ?_
 try cbv
 refine seq_join (T:=Nat×Bool) (fun t=>⟨[(6,.v (.d (.bool false))),(11,.v (.c (.ptr (.loc 288) 0))),(16,.v (.d (.bool b224))),(18,.v (.d (.int .i64 z238))),(181,.v (.d (.bool t.2)))],[(.ext 0,.cells [.ow (.ext 1),.d (.int .i64 z102)]),(.ext 1,.tree (.fmap true) true 8 l103 none),(.ext 2,.cells [.ow (.ext 3)]),(.ext 3,.tree .flat true 7 l113 none),(.loc 288,.cells [.d (.int .u8 z13),.d (.int .i64 z14),.d (.str s15),.ow (.loc 256),.d (.int .i64 z16),.ow (.loc 257)]),(.loc 256,.tree .row true 6 l239 none),(.loc 257,.tree .row false 1 l18 none)],2336⟩) (fun t=>t.1≤m30∧L62_31 t.1 z102 l103 l113 b224 z238 l239 t.2=some r) ?_ ?_
 ·try cbv
  replace h:=lenF_inv M h
  obtain⟨z240,hz,h⟩:=h
  refine⟨false,?_⟩
  try cbv
  refine⟨z240,hz,?_⟩
  clear hz
  try cbv
  refine splitL (fun e=>?_) (fun e=>?_)
  ·replace h:=ite_t e h
   clear e
   try cbv
   exact join_next (m30,true) [6,11,16,18,181] [.ext 0,.ext 1,.ext 2,.ext 3,.loc 288,.loc 256,.loc 257] 2336 ⟨by omega,h⟩ (by cbv)
  replace h:=ite_f (Int.not_lt.2 e) h
  clear e
  try cbv
  exact join_next (m30,false) [6,11,16,18,181] [.ext 0,.ext 1,.ext 2,.ext 3,.loc 288,.loc 256,.loc 257] 2336 ⟨by omega,h⟩ (by cbv)
 clear h
 rintro⟨m31,b241⟩ ⟨hm31,h⟩
 replace hm31:m31≤m30:=hm31
 obtain _ | m31:=m31
 ·replace h:L62_31 0 z102 l103 l113 b224 z238 l239 b241=some r:=h
  rw[L62_31]at h
  cases h
 replace h:L62_31 (m31+1) z102 l103 l113 b224 z238 l239 b241=some r:=h
 rw[L62_31]at h
 try cbv
 cases b241
 ·replace h:=ite_f Bool.false_ne_true h
  try cbv
  refine seq_go ?_
  try cbv
  obtain rfl:=Option.some.inj h
  refine finQ_go hQ ?_
  try cbv
  exact⟨[],rfl,rfl,⟨rfl,⟨rfl,⟨rfl,⟨rfl,trivial⟩⟩⟩⟩,trivial,trivial⟩
 replace h:=ite_t rfl h
 try cbv
 refine seq_go ?_
 try cbv
 replace h:=needF_inv h
 obtain⟨hn,h⟩:=h
 refine⟨(M.lock_iff _).2 hn,?_⟩
 clear hn
 try cbv
 refine⟨[],?_⟩
 try cbv
 replace h:=getN_inv h
 obtain⟨x242,hx,h⟩:=h
 replace h:=ds_t49_inv h
 obtain⟨z243,z244,s245,l246,z247,l248,rfl,h⟩:=h
 refine⟨_,hx,?_⟩
 clear hx
 try cbv
 replace h:=letF_inv h
 obtain⟨z249,hz,h⟩:=h
 refine⟨z249,hz,?_⟩
 clear hz
 try cbv
 replace h:=setF_inv h
 obtain⟨l250,hl250,h⟩:=h
 refine loop_nextG (m31,(z249,l250)) [.close (.loc 256)] [] [6,11,16,18] [.ext 0,.ext 1,.ext 2,.ext 3,.loc 288,.loc 256,.loc 257] 2176 ⟨by omega,h⟩ (Nat.lt_succ_of_le (by omega)) ?_
 try cbv
 refine⟨l250,hl250,?_⟩
 clear hl250
 try cbv
 first | done | exact rfl | cbv
def F60 (n:Nat):Option (Unit):=
 some ()
theorem T60 (n:Nat):F60 n=some ()→
    Trip Try.prog inv 60 [] [] (.v (.c (.ptr (.loc 0) 0))) [] [.cells [.ow (.loc 1),.d (.int .i64 0)],.tree (.fmap true) true 8 [] none]:=by
 intro h
 unfold F60 at h
 refine Trip.of tab_ok tab_one fol Try.func60 rfl (by kernel_rfl) rfl rfl rfl (fun M hM hI=>?_)
 try cbv
 refine seq_go ?_
 try cbv
 refine seq_go ?_
 try cbv
 skip
 refine fin_go ?_
 try cbv
 exact⟨[.loc 96,.loc 32],rfl,rfl,trivial,⟨rfl,⟨rfl,trivial⟩⟩,trivial⟩
def F61 (n:Nat):Option (Unit):=
 some ()
theorem T61 (n:Nat):F61 n=some ()→
    Trip Try.prog inv 61 [] [] (.v (.c (.ptr (.loc 0) 0))) [] [.cells [.ow (.loc 1)],.tree .flat true 7 [] none]:=by
 intro h
 unfold F61 at h
 refine Trip.of tab_ok tab_one fol Try.func61 rfl (by kernel_rfl) rfl rfl rfl (fun M hM hI=>?_)
 try cbv
 refine seq_go ?_
 try cbv
 refine seq_go ?_
 try cbv
 skip
 refine⟨_,_,_,⟨rfl,rfl,rfl⟩,[.treeC (.loc 64) 0 true 7,.flatten (.loc 128)],?_⟩
 try cbv
 exact⟨[.loc 64,.loc 128],rfl,rfl,trivial,⟨rfl,⟨rfl,trivial⟩⟩,trivial⟩
mutual
def L13_5:Nat→(List D)→Int→Int→(List D)→(List D)→Option (Bool)
 | 0,_,_,_,_,_=>none
 | n+1,l2,z27,z28,l29,l30=>
  lenF l2 fun z31=>(if z27<z31 then L13_6 n l2 z27 z28 l29 l30 true else L13_6 n l2 z27 z28 l29 l30 false)
def L13_6:Nat→(List D)→Int→Int→(List D)→(List D)→Bool→Option (Bool)
 | 0,_,_,_,_,_,_=>none
 | n+1,l2,z27,z28,l29,l30,b32=>
  (if b32=true then getF l2 z27 fun x33=>ds_t90 x33 fun z34 z35 l36 z37 z38 s39 l40 z41 l42=>bS (F62 n z34 z35 l36 z37 z38 s39 l40 z41 l42 z28 l29 l30) (fun p95=>bO4 (some p95) fun b43 z44 l45 l46=>letB (!b43) fun b47=>(if b47=true then L13_7 n l2 z27 true z44 l45 l46 else bO3 (F57 n z44 l45) fun z48 z49 l50=>lenF l46 fun z51=>(if z48=z51 then bO3 (F58 n z49 l50) fun z52 z53 l54=>bO2 (F63 n l46) fun z55 l56=>(if z52=z55 then bO3 (F59 n z53 l54) fun z57 z58 l59=>lenF l56 fun z60=>letF (IntKind.wrap .i64 (1000 - z60)) fun z61=>(if z57=z61 then bO3 (F56 n z35 z58 l59) fun b62 z63 l64=>bO2 (F64 n z35 l56) fun z65 l66=>(if z65=(0:Int)then letB (!(b62==true)) fun b67=>L13_7 n l2 z27 b67 z63 l64 l66 else letB (!(b62==false)) fun b68=>L13_7 n l2 z27 b68 z63 l64 l66)else L13_7 n l2 z27 true z58 l59 l56)else L13_7 n l2 z27 true z53 l54 l56)else L13_7 n l2 z27 true z49 l50 l46))) (fun p96=>bO4 (some p96) fun b69 z70 l71 l72=>letB (!b69) fun b73=>(if b73=true then L13_7 n l2 z27 true z70 l71 l72 else bO3 (F57 n z70 l71) fun z74 z75 l76=>lenF l72 fun z77=>(if z74=z77 then bO3 (F58 n z75 l76) fun z78 z79 l80=>bO2 (F63 n l72) fun z81 l82=>(if z78=z81 then bO3 (F59 n z79 l80) fun z83 z84 l85=>lenF l82 fun z86=>letF (IntKind.wrap .i64 (1000 - z86)) fun z87=>(if z83=z87 then bO3 (F56 n z35 z84 l85) fun b88 z89 l90=>bO2 (F64 n z35 l82) fun z91 l92=>(if z91=(0:Int)then letB (!(b88==true)) fun b93=>L13_7 n l2 z27 b93 z89 l90 l92 else letB (!(b88==false)) fun b94=>L13_7 n l2 z27 b94 z89 l90 l92)else L13_7 n l2 z27 true z84 l85 l82)else L13_7 n l2 z27 true z79 l80 l82)else L13_7 n l2 z27 true z75 l76 l72)))else some true)
def L13_7:Nat→(List D)→Int→Bool→Int→(List D)→(List D)→Option (Bool)
 | 0,_,_,_,_,_,_=>none
 | n+1,l2,z27,b97,z98,l99,l100=>
  (if b97=true then some false else letF (IntKind.wrap .i64 (z27+1)) fun z101=>L13_5 n l2 z101 z98 l99 l100)
end
mutual
def L13_2:Nat→Int→(List D)→Int→Int→(List D)→(List D)→Option (Bool)
 | 0,_,_,_,_,_,_=>none
 | n+1,z1,l2,z5,z6,l7,l8=>
  (if z5<z1 then L13_3 n z1 l2 z5 z6 l7 l8 true else L13_3 n z1 l2 z5 z6 l7 l8 false)
def L13_3:Nat→Int→(List D)→Int→Int→(List D)→(List D)→Bool→Option (Bool)
 | 0,_,_,_,_,_,_,_=>none
 | n+1,z1,l2,z5,z6,l7,l8,b9=>
  (if b9=true then bS (F62 n (0:Int) (0:Int) ([]:List D) (1:Int) (1:Int) ByteArray.empty ([]:List D) (0:Int) ([]:List D) z6 l7 l8) (fun p20=>bO4 (some p20) fun b10 z11 l12 l13=>letB (!b10) fun b14=>L13_4 n z1 l2 z5 b14 z11 l12 l13) (fun p21=>bO4 (some p21) fun b15 z16 l17 l18=>letB (!b15) fun b19=>L13_4 n z1 l2 z5 b19 z16 l17 l18)else L13_5 n l2 (0:Int) z6 l7 l8)
def L13_4:Nat→Int→(List D)→Int→Bool→Int→(List D)→(List D)→Option (Bool)
 | 0,_,_,_,_,_,_,_=>none
 | n+1,z1,l2,z5,b22,z23,l24,l25=>
  (if b22=true then some false else letF (IntKind.wrap .i64 (z5+1)) fun z26=>L13_2 n z1 l2 z26 z23 l24 l25)
end
def L13_1:Nat→Int→(List D)→Bool→Option (Bool)
 | 0,_,_,_=>none
 | n+1,z1,l2,b4=>
  (if b4=true then some true else bO0 (F60 n) (bO0 (F61 n) (L13_2 n z1 l2 (0:Int) (0:Int) ([]:List D) ([]:List D))))
def F13 (n:Nat) (z1:Int) (l2:List D):Option (Bool):=
 (if z1<(0:Int)then L13_1 n z1 l2 true else (if (1000:Int)<z1 then L13_1 n z1 l2 true else bO1 (F50 n l2) fun b3=>L13_1 n z1 l2 b3))
theorem T13 (n:Nat):∀⦃z1:Int⦄ ⦃l2:List D⦄ ⦃r1:Bool⦄,F13 n z1 l2=some r1→
    Trip Try.prog inv 13 [.d (.int .i64 z1),.d (.list true 9 l2)] [] (.v (.d (.bool r1))) [] []:=by
 intro z1 l2 r1 h
 unfold F13 at h
 refine Trip.of tab_ok tab_one fol Try.func13 rfl (by kernel_rfl) rfl rfl rfl (fun M hM hI=>?_)
 try cbv
 refine seq_go ?_
 try cbv
 refine seq_go ?_
 try cbv
 refine seq_join (T:=Nat×Bool) (fun t=>⟨[(0,.v (.d (.int .i64 z1))),(1,.v (.d (.list true 9 l2))),(4,.v (.d (.bool false))),(18,.v (.d (.bool t.2)))],[],352⟩) (fun t=>t.1≤n∧L13_1 t.1 z1 l2 t.2=some r1) ?_ ?_
 ·try cbv
  refine splitL (fun e=>?_) (fun e=>?_)
  ·replace h:=ite_t e h
   clear e
   try cbv
   exact join_next (n,true) [0,1,4,18] [] 352 ⟨by omega,h⟩ (by cbv)
  replace h:=ite_f (Int.not_lt.2 e) h
  clear e
  try cbv
  refine splitL (fun e=>?_) (fun e=>?_)
  ·replace h:=ite_t e h
   clear e
   try cbv
   exact join_next (n,true) [0,1,4,18] [] 352 ⟨by omega,h⟩ (by cbv)
  replace h:=ite_f (Int.not_lt.2 e) h
  clear e
  try cbv
  replace h:=bO1_inv h
  obtain⟨b3,hr,h⟩:=h
  refine call_go rfl rfl ?_
  try cbv
  refine call_pure hM hI (T50 _ hr) rfl ?_
  clear hr
  try cbv
  exact join_next (n,b3) [0,1,4,18] [] 352 ⟨by omega,h⟩ (by cbv)
 clear h
 rintro⟨m1,b4⟩ ⟨hm1,h⟩
 replace hm1:m1≤n:=hm1
 obtain _ | m1:=m1
 ·replace h:L13_1 0 z1 l2 b4=some r1:=h
  rw[L13_1]at h
  cases h
 replace h:L13_1 (m1+1) z1 l2 b4=some r1:=h
 rw[L13_1]at h
 try cbv
 cases b4
 rotate_left
 ·replace h:=ite_t rfl h
  try cbv
  refine seq_go ?_
  try cbv
  obtain rfl:=Option.some.inj h
  refine fin_go ?_
  try cbv
  exact⟨[],rfl,rfl,trivial,trivial,trivial⟩
 replace h:=ite_f Bool.false_ne_true h
 try cbv
 refine seq_go ?_
 try cbv
 replace h:=bO0_inv h
 obtain⟨hr,h⟩:=h
 refine call_go rfl rfl ?_
 try cbv
 refine call_with hM hI [] (T60 _ hr) rfl (by simp) trivial trivial (by simp) ?_
 clear hr
 try cbv
 replace h:=bO0_inv h
 obtain⟨hr,h⟩:=h
 refine call_go rfl rfl ?_
 try cbv
 refine call_with hM hI [] (T61 _ hr) rfl (by simp) trivial trivial (by simp) ?_
 clear hr
 try cbv
 refine seq_go ?_
 try cbv
 refine seq_go ?_
 try cbv
 refine loop_invG (T:=Nat×Int×Int×List D×List D) [] [] [0,1,4,5,6,7] [.loc 352,.loc 353,.loc 384,.loc 385] 512 (fun t=>⟨[(0,.v (.d (.int .i64 z1))),(1,.v (.d (.list true 9 l2))),(4,.v (.d (.bool false))),(5,.v (.c (.ptr (.loc 352) 0))),(6,.v (.c (.ptr (.loc 384) 0))),(7,.v (.d (.int .i64 t.2.1)))],[(.loc 352,.cells [.ow (.loc 353),.d (.int .i64 t.2.2.1)]),(.loc 353,.tree (.fmap true) true 8 t.2.2.2.1 none),(.loc 384,.cells [.ow (.loc 385)]),(.loc 385,.tree .flat true 7 t.2.2.2.2 none)],512⟩)
   (fun t=>t.1≤m1∧L13_2 t.1 z1 l2 t.2.1 t.2.2.1 t.2.2.2.1 t.2.2.2.2=some r1) (fun t=>t.1) (m1,((0:Int),(0:Int),([]:List D),([]:List D))) ⟨Nat.le_refl _,h⟩ (by cbv) ?_
 clear h
 rintro⟨m2,z5,z6,l7,l8⟩ ⟨hm2,h⟩
 replace hm2:m2≤m1:=hm2
 obtain _ | m2:=m2
 ·replace h:L13_2 0 z1 l2 z5 z6 l7 l8=some r1:=h
  rw[L13_2]at h
  cases h
 replace h:L13_2 (m2+1) z1 l2 z5 z6 l7 l8=some r1:=h
 rw[L13_2]at h
 try cbv
 refine seq_go ?_
 try cbv
 refine seq_join (T:=Nat×Bool) (fun t=>⟨[(0,.v (.d (.int .i64 z1))),(1,.v (.d (.list true 9 l2))),(4,.v (.d (.bool false))),(5,.v (.c (.ptr (.loc 352) 0))),(6,.v (.c (.ptr (.loc 384) 0))),(7,.v (.d (.int .i64 z5))),(23,.v (.d (.bool t.2)))],[(.loc 352,.cells [.ow (.loc 353),.d (.int .i64 z6)]),(.loc 353,.tree (.fmap true) true 8 l7 none),(.loc 384,.cells [.ow (.loc 385)]),(.loc 385,.tree .flat true 7 l8 none)],608⟩) (fun t=>t.1≤m2∧L13_3 t.1 z1 l2 z5 z6 l7 l8 t.2=some r1) ?_ ?_
 ·try cbv
  refine splitL (fun e=>?_) (fun e=>?_)
  ·replace h:=ite_t e h
   clear e
   try cbv
   exact join_next (m2,true) [0,1,4,5,6,7,23] [.loc 352,.loc 353,.loc 384,.loc 385] 608 ⟨by omega,h⟩ (by cbv)
  replace h:=ite_f (Int.not_lt.2 e) h
  clear e
  try cbv
  exact join_next (m2,false) [0,1,4,5,6,7,23] [.loc 352,.loc 353,.loc 384,.loc 385] 608 ⟨by omega,h⟩ (by cbv)
 clear h
 rintro⟨m3,b9⟩ ⟨hm3,h⟩
 replace hm3:m3≤m2:=hm3
 obtain _ | m3:=m3
 ·replace h:L13_3 0 z1 l2 z5 z6 l7 l8 b9=some r1:=h
  rw[L13_3]at h
  cases h
 replace h:L13_3 (m3+1) z1 l2 z5 z6 l7 l8 b9=some r1:=h
 rw[L13_3]at h
 try cbv
 cases b9
 rotate_left
 ·replace h:=ite_t rfl h
  try cbv
  refine seq_go ?_
  try cbv
  refine seq_join (T:=Nat×Bool×Int×List D×List D) (fun t=>⟨[(0,.v (.d (.int .i64 z1))),(1,.v (.d (.list true 9 l2))),(4,.v (.d (.bool false))),(5,.v (.c (.ptr (.loc 352) 0))),(6,.v (.c (.ptr (.loc 384) 0))),(7,.v (.d (.int .i64 z5))),(31,.v (.d (.bool t.2.1)))],[(.loc 352,.cells [.ow (.loc 353),.d (.int .i64 t.2.2.1)]),(.loc 353,.tree (.fmap true) true 8 t.2.2.2.1 none),(.loc 384,.cells [.ow (.loc 385)]),(.loc 385,.tree .flat true 7 t.2.2.2.2 none)],800⟩) (fun t=>t.1≤m3∧L13_4 t.1 z1 l2 z5 t.2.1 t.2.2.1 t.2.2.2.1 t.2.2.2.2=some r1) ?_ ?_
  ·try cbv
   replace h:=bS_inv h
   rcases h with⟨p20,hr,h⟩ | ⟨p21,hr,h⟩
   ·replace h:=bO4_inv h
    obtain⟨b10,z11,l12,l13,hp,h⟩:=h
    obtain rfl:=Option.some.inj hp
    clear hp
    refine call_go rfl rfl ?_
    try cbv
    refine call_with hM hI [.loc 352,.loc 353,.loc 384,.loc 385] (T62 _ hr (fun r p n=>r= .v (.d (.bool b10))∧p=[.cells [.ow (.ext 1),.d (.int .i64 z11)],.tree (.fmap true) true 8 l12 none,.cells [.ow (.ext 3)],.tree .flat true 7 l13 none]∧n=[]) ⟨rfl,rfl,rfl⟩:Trip _ _ _ _ _ (.v (.d (.bool b10))) [.cells [.ow (.ext 1),.d (.int .i64 z11)],.tree (.fmap true) true 8 l12 none,.cells [.ow (.ext 3)],.tree .flat true 7 l13 none] []) rfl (by simp) ⟨rfl,⟨rfl,⟨rfl,⟨rfl,trivial⟩⟩⟩⟩ ⟨trivial,⟨trivial,⟨trivial,⟨trivial,trivial⟩⟩⟩⟩ (by simp) ?_
    clear hr
    try cbv
    replace h:=letB_inv h
    obtain⟨b14,hz,h⟩:=h
    refine⟨b14,not_eq' hz,?_⟩
    clear hz
    try cbv
    exact join_next (m3,(b14,z11,l12,l13)) [0,1,4,5,6,7,31] [.loc 352,.loc 353,.loc 384,.loc 385] 800 ⟨by omega,h⟩ (by cbv)
   replace h:=bO4_inv h
   obtain⟨b15,z16,l17,l18,hp,h⟩:=h
   obtain rfl:=Option.some.inj hp
   clear hp
   refine call_go rfl rfl ?_
   try cbv
   refine call_with hM hI [.loc 352,.loc 353,.loc 384,.loc 385] (T62 _ hr (fun r p n=>r= .v (.d (.bool b15))∧p=[.cells [.ow (.ext 1),.d (.int .i64 z16)],.tree (.fmap true) true 8 l17 none,.cells [.ow (.loc 0)],.gone]∧n=[.tree .flat true 7 l18 none]) ⟨rfl,rfl,rfl⟩:Trip _ _ _ _ _ (.v (.d (.bool b15))) [.cells [.ow (.ext 1),.d (.int .i64 z16)],.tree (.fmap true) true 8 l17 none,.cells [.ow (.loc 0)],.gone] [.tree .flat true 7 l18 none]) rfl (by simp) ⟨rfl,⟨rfl,⟨rfl,⟨rfl,trivial⟩⟩⟩⟩ ⟨trivial,⟨trivial,⟨trivial,⟨trivial,trivial⟩⟩⟩⟩ (by simp) ?_
   clear hr
   try cbv
   replace h:=letB_inv h
   obtain⟨b19,hz,h⟩:=h
   refine⟨b19,not_eq' hz,?_⟩
   clear hz
   try cbv
   refine join_nextG (m3,(b19,z16,l17,l18)) [] [(736,385)] [0,1,4,5,6,7,31] [.loc 352,.loc 353,.loc 384,.loc 736] 800 ⟨by omega,h⟩ ?_
   try cbv
   first | done | exact rfl | cbv
  clear h
  rintro⟨m4,b22,z23,l24,l25⟩ ⟨hm4,h⟩
  replace hm4:m4≤m3:=hm4
  obtain _ | m4:=m4
  ·replace h:L13_4 0 z1 l2 z5 b22 z23 l24 l25=some r1:=h
   rw[L13_4]at h
   cases h
  replace h:L13_4 (m4+1) z1 l2 z5 b22 z23 l24 l25=some r1:=h
  rw[L13_4]at h
  try cbv
  cases b22
  ·replace h:=ite_f Bool.false_ne_true h
   try cbv
   replace h:=letF_inv h
   obtain⟨z26,hz,h⟩:=h
   refine⟨z26,hz,?_⟩
   clear hz
   try cbv
   refine loop_nextG (m4,(z26,z23,l24,l25)) [] [] [0,1,4,5,6,7] [.loc 352,.loc 353,.loc 384,.loc 385] 512 ⟨by omega,h⟩ (Nat.lt_succ_of_le (by omega)) ?_
   try cbv
  replace h:=ite_t rfl h
  try cbv
  refine seq_go ?_
  try cbv
  obtain rfl:=Option.some.inj h
  refine fin_go ?_
  try cbv
  exact⟨[],rfl,rfl,trivial,trivial,trivial⟩
 replace h:=ite_f Bool.false_ne_true h
 try cbv
 refine seq_go ?_
 try cbv
 refine seq_go ?_
 try cbv
 refine loop_invG (T:=Nat×Int×Int×List D×List D) [] [] [1,4,5,6,8] [.loc 352,.loc 353,.loc 384,.loc 385] 640 (fun t=>⟨[(1,.v (.d (.list true 9 l2))),(4,.v (.d (.bool false))),(5,.v (.c (.ptr (.loc 352) 0))),(6,.v (.c (.ptr (.loc 384) 0))),(8,.v (.d (.int .i64 t.2.1)))],[(.loc 352,.cells [.ow (.loc 353),.d (.int .i64 t.2.2.1)]),(.loc 353,.tree (.fmap true) true 8 t.2.2.2.1 none),(.loc 384,.cells [.ow (.loc 385)]),(.loc 385,.tree .flat true 7 t.2.2.2.2 none)],640⟩)
   (fun t=>t.1≤m3∧L13_5 t.1 l2 t.2.1 t.2.2.1 t.2.2.2.1 t.2.2.2.2=some r1) (fun t=>t.1) (m3,((0:Int),z6,l7,l8)) ⟨Nat.le_refl _,h⟩ (by cbv) ?_
 clear h
 rintro⟨m5,z27,z28,l29,l30⟩ ⟨hm5,h⟩
 replace hm5:m5≤m3:=hm5
 obtain _ | m5:=m5
 ·replace h:L13_5 0 l2 z27 z28 l29 l30=some r1:=h
  rw[L13_5]at h
  cases h
 replace h:L13_5 (m5+1) l2 z27 z28 l29 l30=some r1:=h
 rw[L13_5]at h
 try cbv
 refine seq_go ?_
 try cbv
 refine seq_join (T:=Nat×Bool) (fun t=>⟨[(1,.v (.d (.list true 9 l2))),(4,.v (.d (.bool false))),(5,.v (.c (.ptr (.loc 352) 0))),(6,.v (.c (.ptr (.loc 384) 0))),(8,.v (.d (.int .i64 z27))),(35,.v (.d (.bool t.2)))],[(.loc 352,.cells [.ow (.loc 353),.d (.int .i64 z28)]),(.loc 353,.tree (.fmap true) true 8 l29 none),(.loc 384,.cells [.ow (.loc 385)]),(.loc 385,.tree .flat true 7 l30 none)],768⟩) (fun t=>t.1≤m5∧L13_6 t.1 l2 z27 z28 l29 l30 t.2=some r1) ?_ ?_
 ·try cbv
  replace h:=lenF_inv M h
  obtain⟨z31,hz,h⟩:=h
  refine⟨z31,hz,?_⟩
  clear hz
  try cbv
  refine splitL (fun e=>?_) (fun e=>?_)
  ·replace h:=ite_t e h
   clear e
   try cbv
   exact join_next (m5,true) [1,4,5,6,8,35] [.loc 352,.loc 353,.loc 384,.loc 385] 768 ⟨by omega,h⟩ (by cbv)
  replace h:=ite_f (Int.not_lt.2 e) h
  clear e
  try cbv
  exact join_next (m5,false) [1,4,5,6,8,35] [.loc 352,.loc 353,.loc 384,.loc 385] 768 ⟨by omega,h⟩ (by cbv)
 clear h
 rintro⟨m6,b32⟩ ⟨hm6,h⟩
 replace hm6:m6≤m5:=hm6
 obtain _ | m6:=m6
 ·replace h:L13_6 0 l2 z27 z28 l29 l30 b32=some r1:=h
  rw[L13_6]at h
  cases h
 replace h:L13_6 (m6+1) l2 z27 z28 l29 l30 b32=some r1:=h
 rw[L13_6]at h
 try cbv
 cases b32
 ·replace h:=ite_f Bool.false_ne_true h
  try cbv
  refine seq_go ?_
  try cbv
  obtain rfl:=Option.some.inj h
  refine fin_go ?_
  try cbv
  exact⟨[],rfl,rfl,trivial,trivial,trivial⟩
 replace h:=ite_t rfl h
 try cbv
 refine seq_go ?_
 try cbv
 refine seq_join (T:=Nat×Bool×Int×List D×List D) (fun t=>⟨[(1,.v (.d (.list true 9 l2))),(4,.v (.d (.bool false))),(5,.v (.c (.ptr (.loc 352) 0))),(6,.v (.c (.ptr (.loc 384) 0))),(8,.v (.d (.int .i64 z27))),(91,.v (.d (.bool t.2.1)))],[(.loc 352,.cells [.ow (.loc 353),.d (.int .i64 t.2.2.1)]),(.loc 353,.tree (.fmap true) true 8 t.2.2.2.1 none),(.loc 384,.cells [.ow (.loc 385)]),(.loc 385,.tree .flat true 7 t.2.2.2.2 none)],2496⟩) (fun t=>t.1≤m6∧L13_7 t.1 l2 z27 t.2.1 t.2.2.1 t.2.2.2.1 t.2.2.2.2=some r1) ?_ ?_
 rotate_left
 ·clear h
  rintro⟨m7,b97,z98,l99,l100⟩ ⟨hm7,h⟩
  replace hm7:m7≤m6:=hm7
  obtain _ | m7:=m7
  ·replace h:L13_7 0 l2 z27 b97 z98 l99 l100=some r1:=h
   rw[L13_7]at h
   cases h
  replace h:L13_7 (m7+1) l2 z27 b97 z98 l99 l100=some r1:=h
  rw[L13_7]at h
  try cbv
  cases b97
  ·replace h:=ite_f Bool.false_ne_true h
   try cbv
   replace h:=letF_inv h
   obtain⟨z101,hz,h⟩:=h
   refine⟨z101,hz,?_⟩
   clear hz
   try cbv
   refine loop_nextG (m7,(z101,z98,l99,l100)) [] [] [1,4,5,6,8] [.loc 352,.loc 353,.loc 384,.loc 385] 640 ⟨by omega,h⟩ (Nat.lt_succ_of_le (by omega)) ?_
   try cbv
  replace h:=ite_t rfl h
  try cbv
  refine seq_go ?_
  try cbv
  obtain rfl:=Option.some.inj h
  refine fin_go ?_
  try cbv
  exact⟨[],rfl,rfl,trivial,trivial,trivial⟩
 try cbv
 replace h:=getF_inv h
 obtain⟨x33,hx33,h⟩:=h
 replace h:=ds_t90_inv h
 obtain⟨z34,z35,l36,z37,z38,s39,l40,z41,l42,rfl,h⟩:=h
 refine⟨_,hx33.1,hx33.2,?_⟩
 try cbv
 replace h:=bS_inv h
 rcases h with⟨p95,hr,h⟩ | ⟨p96,hr,h⟩
 ·replace h:=bO4_inv h
  obtain⟨b43,z44,l45,l46,hp,h⟩:=h
  obtain rfl:=Option.some.inj hp
  clear hp
  first | refine .inr (.inr ⟨[.loc 384],?_⟩) | refine .inr ⟨[.loc 384],?_⟩
  try cbv
  refine call_with hM hI [.loc 352,.loc 353,.loc 384,.loc 385] (T62 _ hr (fun r p n=>r= .v (.d (.bool b43))∧p=[.cells [.ow (.ext 1),.d (.int .i64 z44)],.tree (.fmap true) true 8 l45 none,.cells [.ow (.ext 3)],.tree .flat true 7 l46 none]∧n=[]) ⟨rfl,rfl,rfl⟩:Trip _ _ _ _ _ (.v (.d (.bool b43))) [.cells [.ow (.ext 1),.d (.int .i64 z44)],.tree (.fmap true) true 8 l45 none,.cells [.ow (.ext 3)],.tree .flat true 7 l46 none] []) rfl (by simp) ⟨rfl,⟨rfl,⟨rfl,⟨rfl,trivial⟩⟩⟩⟩ ⟨trivial,⟨trivial,⟨trivial,⟨trivial,trivial⟩⟩⟩⟩ (by simp) ?_
  try cbv
  first | refine⟨(rfl:(_:Option AObj)=_),?_⟩ | skip
  try cbv
  clear hr
  try cbv
  replace h:=letB_inv h
  obtain⟨b47,hz,h⟩:=h
  refine⟨b47,not_eq' hz,?_⟩
  clear hz
  try cbv
  cases b47
  rotate_left
  ·replace h:=ite_t rfl h
   try cbv
   refine drawn ?_ ?_
   ·show _=true
    kernel_rfl
   try cbv
   exact join_next (m6,(true,z44,l45,l46)) [1,4,5,6,8,91] [.loc 352,.loc 353,.loc 384,.loc 385] 2496 ⟨by omega,h⟩ (by cbv)
  replace h:=ite_f Bool.false_ne_true h
  try cbv
  replace h:=bO3_inv h
  obtain⟨z48,z49,l50,hr,h⟩:=h
  first | refine .inr (.inl ⟨[],?_⟩) | refine .inl ⟨[],?_⟩
  try cbv
  refine call_with hM hI [.loc 352,.loc 353] (T57 _ hr) rfl (by simp) ⟨rfl,⟨rfl,trivial⟩⟩ ⟨trivial,⟨trivial,trivial⟩⟩ (by simp) ?_
  clear hr
  try cbv
  replace h:=lenF_inv M h
  obtain⟨z51,hz,h⟩:=h
  refine⟨z51,hz,?_⟩
  clear hz
  try cbv
  refine splitI (fun e=>?_) (fun e=>?_)
  rotate_left
  ·replace h:=ite_f e h
   clear e
   try cbv
   refine drawn ?_ ?_
   ·show _=true
    kernel_rfl
   try cbv
   exact join_next (m6,(true,z49,l50,l46)) [1,4,5,6,8,91] [.loc 352,.loc 353,.loc 384,.loc 385] 2496 ⟨by omega,h⟩ (by cbv)
  replace h:=ite_t e h
  clear e
  try cbv
  replace h:=bO3_inv h
  obtain⟨z52,z53,l54,hr,h⟩:=h
  first | refine .inr (.inl ⟨[],?_⟩) | refine .inl ⟨[],?_⟩
  try cbv
  refine call_with hM hI [.loc 352,.loc 353] (T58 _ hr) rfl (by simp) ⟨rfl,⟨rfl,trivial⟩⟩ ⟨trivial,⟨trivial,trivial⟩⟩ (by simp) ?_
  clear hr
  try cbv
  replace h:=bO2_inv h
  obtain⟨z55,l56,hr,h⟩:=h
  first | refine .inr (.inr ⟨[.loc 384],?_⟩) | refine .inr ⟨[.loc 384],?_⟩
  try cbv
  refine call_with hM hI [.loc 384,.loc 385] (T63 _ hr) rfl (by simp) ⟨rfl,⟨rfl,trivial⟩⟩ ⟨trivial,⟨trivial,trivial⟩⟩ (by simp) ?_
  try cbv
  first | refine⟨(rfl:(_:Option AObj)=_),?_⟩ | skip
  try cbv
  clear hr
  try cbv
  refine splitI (fun e=>?_) (fun e=>?_)
  rotate_left
  ·replace h:=ite_f e h
   clear e
   try cbv
   refine drawn ?_ ?_
   ·show _=true
    kernel_rfl
   try cbv
   exact join_next (m6,(true,z53,l54,l56)) [1,4,5,6,8,91] [.loc 352,.loc 353,.loc 384,.loc 385] 2496 ⟨by omega,h⟩ (by cbv)
  replace h:=ite_t e h
  clear e
  try cbv
  replace h:=bO3_inv h
  obtain⟨z57,z58,l59,hr,h⟩:=h
  first | refine .inr (.inl ⟨[],?_⟩) | refine .inl ⟨[],?_⟩
  try cbv
  refine call_with hM hI [.loc 352,.loc 353] (T59 _ hr) rfl (by simp) ⟨rfl,⟨rfl,trivial⟩⟩ ⟨trivial,⟨trivial,trivial⟩⟩ (by simp) ?_
  clear hr
  try cbv
  replace h:=lenF_inv M h
  obtain⟨z60,hz,h⟩:=h
  refine⟨z60,hz,?_⟩
  clear hz
  try cbv
  replace h:=letF_inv h
  obtain⟨z61,hz,h⟩:=h
  refine⟨z61,hz,?_⟩
  clear hz
  try cbv
  refine splitI (fun e=>?_) (fun e=>?_)
  rotate_left
  ·replace h:=ite_f e h
   clear e
   try cbv
   refine drawn ?_ ?_
   ·show _=true
    kernel_rfl
   try cbv
   exact join_next (m6,(true,z58,l59,l56)) [1,4,5,6,8,91] [.loc 352,.loc 353,.loc 384,.loc 385] 2496 ⟨by omega,h⟩ (by cbv)
  replace h:=ite_t e h
  clear e
  try cbv
  refine⟨_,hx33.1,hx33.2,?_⟩
  try cbv
  replace h:=bO3_inv h
  obtain⟨b62,z63,l64,hr,h⟩:=h
  first | refine .inr (.inl ⟨[],?_⟩) | refine .inl ⟨[],?_⟩
  try cbv
  refine call_with hM hI [.loc 352,.loc 353] (T56 _ hr) rfl (by simp) ⟨rfl,⟨rfl,trivial⟩⟩ ⟨trivial,⟨trivial,trivial⟩⟩ (by simp) ?_
  clear hr
  try cbv
  refine⟨_,hx33.1,hx33.2,?_⟩
  try cbv
  replace h:=bO2_inv h
  obtain⟨z65,l66,hr,h⟩:=h
  first | refine .inr (.inr ⟨[.loc 384],?_⟩) | refine .inr ⟨[.loc 384],?_⟩
  try cbv
  refine call_with hM hI [.loc 384,.loc 385] (T64 _ hr) rfl (by simp) ⟨rfl,⟨rfl,trivial⟩⟩ ⟨trivial,⟨trivial,trivial⟩⟩ (by simp) ?_
  try cbv
  first | refine⟨(rfl:(_:Option AObj)=_),?_⟩ | skip
  try cbv
  clear hr
  try cbv
  refine splitI (fun e=>?_) (fun e=>?_)
  ·replace h:=ite_t e h
   clear e
   try cbv
   replace h:=letB_inv h
   obtain⟨b67,hz,h⟩:=h
   refine⟨b67,eqv_ne hz,?_⟩
   clear hz
   try cbv
   refine drawn ?_ ?_
   ·show _=true
    kernel_rfl
   try cbv
   exact join_next (m6,(b67,z63,l64,l66)) [1,4,5,6,8,91] [.loc 352,.loc 353,.loc 384,.loc 385] 2496 ⟨by omega,h⟩ (by cbv)
  replace h:=ite_f e h
  clear e
  try cbv
  replace h:=letB_inv h
  obtain⟨b68,hz,h⟩:=h
  refine⟨b68,eqv_ne hz,?_⟩
  clear hz
  try cbv
  refine drawn ?_ ?_
  ·show _=true
   kernel_rfl
  try cbv
  exact join_next (m6,(b68,z63,l64,l66)) [1,4,5,6,8,91] [.loc 352,.loc 353,.loc 384,.loc 385] 2496 ⟨by omega,h⟩ (by cbv)
 replace h:=bO4_inv h
 obtain⟨b69,z70,l71,l72,hp,h⟩:=h
 obtain rfl:=Option.some.inj hp
 clear hp
 first | refine .inr (.inl ⟨[],?_⟩) | refine .inl ⟨[],?_⟩
 try cbv
 refine call_with hM hI [.loc 352,.loc 353,.loc 384,.loc 385] (T62 _ hr (fun r p n=>r= .v (.d (.bool b69))∧p=[.cells [.ow (.ext 1),.d (.int .i64 z70)],.tree (.fmap true) true 8 l71 none,.cells [.ow (.loc 0)],.gone]∧n=[.tree .flat true 7 l72 none]) ⟨rfl,rfl,rfl⟩:Trip _ _ _ _ _ (.v (.d (.bool b69))) [.cells [.ow (.ext 1),.d (.int .i64 z70)],.tree (.fmap true) true 8 l71 none,.cells [.ow (.loc 0)],.gone] [.tree .flat true 7 l72 none]) rfl (by simp) ⟨rfl,⟨rfl,⟨rfl,⟨rfl,trivial⟩⟩⟩⟩ ⟨trivial,⟨trivial,⟨trivial,⟨trivial,trivial⟩⟩⟩⟩ (by simp) ?_
 clear hr
 try cbv
 replace h:=letB_inv h
 obtain⟨b73,hz,h⟩:=h
 refine⟨b73,not_eq' hz,?_⟩
 clear hz
 try cbv
 cases b73
 rotate_left
 ·replace h:=ite_t rfl h
  try cbv
  refine drawn ?_ ?_
  ·show _=true
   kernel_rfl
  try cbv
  refine join_nextG (m6,(true,z70,l71,l72)) [] [(960,385)] [1,4,5,6,8,91] [.loc 352,.loc 353,.loc 384,.loc 960] 2496 ⟨by omega,h⟩ ?_
  try cbv
  first | done | exact rfl | cbv
 replace h:=ite_f Bool.false_ne_true h
 try cbv
 replace h:=bO3_inv h
 obtain⟨z74,z75,l76,hr,h⟩:=h
 first | refine .inr (.inl ⟨[],?_⟩) | refine .inl ⟨[],?_⟩
 try cbv
 refine call_with hM hI [.loc 352,.loc 353] (T57 _ hr) rfl (by simp) ⟨rfl,⟨rfl,trivial⟩⟩ ⟨trivial,⟨trivial,trivial⟩⟩ (by simp) ?_
 clear hr
 try cbv
 replace h:=lenF_inv M h
 obtain⟨z77,hz,h⟩:=h
 refine⟨z77,hz,?_⟩
 clear hz
 try cbv
 refine splitI (fun e=>?_) (fun e=>?_)
 rotate_left
 ·replace h:=ite_f e h
  clear e
  try cbv
  refine drawn ?_ ?_
  ·show _=true
   kernel_rfl
  try cbv
  refine join_nextG (m6,(true,z75,l76,l72)) [] [(960,385)] [1,4,5,6,8,91] [.loc 352,.loc 353,.loc 384,.loc 960] 2496 ⟨by omega,h⟩ ?_
  try cbv
  first | done | exact rfl | cbv
 replace h:=ite_t e h
 clear e
 try cbv
 replace h:=bO3_inv h
 obtain⟨z78,z79,l80,hr,h⟩:=h
 first | refine .inr (.inl ⟨[],?_⟩) | refine .inl ⟨[],?_⟩
 try cbv
 refine call_with hM hI [.loc 352,.loc 353] (T58 _ hr) rfl (by simp) ⟨rfl,⟨rfl,trivial⟩⟩ ⟨trivial,⟨trivial,trivial⟩⟩ (by simp) ?_
 clear hr
 try cbv
 replace h:=bO2_inv h
 obtain⟨z81,l82,hr,h⟩:=h
 first | refine .inr (.inr ⟨[.loc 384],?_⟩) | refine .inr ⟨[.loc 384],?_⟩
 try cbv
 refine call_with hM hI [.loc 384,.loc 960] (T63 _ hr) rfl (by simp) ⟨rfl,⟨rfl,trivial⟩⟩ ⟨trivial,⟨trivial,trivial⟩⟩ (by simp) ?_
 try cbv
 first | refine⟨(rfl:(_:Option AObj)=_),?_⟩ | skip
 try cbv
 clear hr
 try cbv
 refine splitI (fun e=>?_) (fun e=>?_)
 rotate_left
 ·replace h:=ite_f e h
  clear e
  try cbv
  refine drawn ?_ ?_
  ·show _=true
   kernel_rfl
  try cbv
  refine join_nextG (m6,(true,z79,l80,l82)) [] [(960,385)] [1,4,5,6,8,91] [.loc 352,.loc 353,.loc 384,.loc 960] 2496 ⟨by omega,h⟩ ?_
  try cbv
  first | done | exact rfl | cbv
 replace h:=ite_t e h
 clear e
 try cbv
 replace h:=bO3_inv h
 obtain⟨z83,z84,l85,hr,h⟩:=h
 first | refine .inr (.inl ⟨[],?_⟩) | refine .inl ⟨[],?_⟩
 try cbv
 refine call_with hM hI [.loc 352,.loc 353] (T59 _ hr) rfl (by simp) ⟨rfl,⟨rfl,trivial⟩⟩ ⟨trivial,⟨trivial,trivial⟩⟩ (by simp) ?_
 clear hr
 try cbv
 replace h:=lenF_inv M h
 obtain⟨z86,hz,h⟩:=h
 refine⟨z86,hz,?_⟩
 clear hz
 try cbv
 replace h:=letF_inv h
 obtain⟨z87,hz,h⟩:=h
 refine⟨z87,hz,?_⟩
 clear hz
 try cbv
 refine splitI (fun e=>?_) (fun e=>?_)
 rotate_left
 ·replace h:=ite_f e h
  clear e
  try cbv
  refine drawn ?_ ?_
  ·show _=true
   kernel_rfl
  try cbv
  refine join_nextG (m6,(true,z84,l85,l82)) [] [(960,385)] [1,4,5,6,8,91] [.loc 352,.loc 353,.loc 384,.loc 960] 2496 ⟨by omega,h⟩ ?_
  try cbv
  first | done | exact rfl | cbv
 replace h:=ite_t e h
 clear e
 try cbv
 refine⟨_,hx33.1,hx33.2,?_⟩
 try cbv
 replace h:=bO3_inv h
 obtain⟨b88,z89,l90,hr,h⟩:=h
 first | refine .inr (.inl ⟨[],?_⟩) | refine .inl ⟨[],?_⟩
 try cbv
 refine call_with hM hI [.loc 352,.loc 353] (T56 _ hr) rfl (by simp) ⟨rfl,⟨rfl,trivial⟩⟩ ⟨trivial,⟨trivial,trivial⟩⟩ (by simp) ?_
 clear hr
 try cbv
 refine⟨_,hx33.1,hx33.2,?_⟩
 try cbv
 replace h:=bO2_inv h
 obtain⟨z91,l92,hr,h⟩:=h
 first | refine .inr (.inr ⟨[.loc 384],?_⟩) | refine .inr ⟨[.loc 384],?_⟩
 try cbv
 refine call_with hM hI [.loc 384,.loc 960] (T64 _ hr) rfl (by simp) ⟨rfl,⟨rfl,trivial⟩⟩ ⟨trivial,⟨trivial,trivial⟩⟩ (by simp) ?_
 try cbv
 first | refine⟨(rfl:(_:Option AObj)=_),?_⟩ | skip
 try cbv
 clear hr
 try cbv
 refine splitI (fun e=>?_) (fun e=>?_)
 ·replace h:=ite_t e h
  clear e
  try cbv
  replace h:=letB_inv h
  obtain⟨b93,hz,h⟩:=h
  refine⟨b93,eqv_ne hz,?_⟩
  clear hz
  try cbv
  refine drawn ?_ ?_
  ·show _=true
   kernel_rfl
  try cbv
  refine join_nextG (m6,(b93,z89,l90,l92)) [] [(960,385)] [1,4,5,6,8,91] [.loc 352,.loc 353,.loc 384,.loc 960] 2496 ⟨by omega,h⟩ ?_
  try cbv
  first | done | exact rfl | cbv
 replace h:=ite_f e h
 clear e
 try cbv
 replace h:=letB_inv h
 obtain⟨b94,hz,h⟩:=h
 refine⟨b94,eqv_ne hz,?_⟩
 clear hz
 try cbv
 refine drawn ?_ ?_
 ·show _=true
  kernel_rfl
 try cbv
 refine join_nextG (m6,(b94,z89,l90,l92)) [] [(960,385)] [1,4,5,6,8,91] [.loc 352,.loc 353,.loc 384,.loc 960] 2496 ⟨by omega,h⟩ ?_
 try cbv
 first | done | exact rfl | cbv
end Go.Proofs.Ytiiojajgajnhpaa
end
set_option linter.unusedVariables false
noncomputable section
namespace Go.Proofs.Ytiiojajgajnhpaa
open Go Go.AM
theorem swS_alive (H:List (VV×Bool)) (id:Int) (q:List Int) (x:VV):alive (swS H id q x).2.2=alive H:=by
 unfold swS
 by_cases c:(fnd H id).2=0
 ·by_cases g:(getS q (fnd H id).1).2=0
  ·simp only[if_pos c,if_pos g];exact alive_keep H _ _ _ (fnd_get c)
  ·simp only[if_pos c,if_neg g]
 ·simp only[if_neg c]
theorem ptS_alive (H:List (VV×Bool)) (id:Int) (q:List Int) (x:VV):alive (ptS H id q x).2=alive H:=by
 unfold ptS
 by_cases c:(fnd H id).2=0
 ·by_cases f:(setS q (fnd H id).1 x).2=0
  ·by_cases g:(getS q (fnd H id).1).2=3
   ·simp only[if_pos c,if_pos f,if_pos g];exact alive_keep H _ _ _ (fnd_get c)
   ·simp only[if_pos c,if_pos f,if_neg g]
  ·simp only[if_pos c,if_neg f]
 ·simp only[if_neg c]
theorem frS_alive (H:List (VV×Bool)) (id:Int):(if (fnd H id).2=0 then (alive H:Int) - 1 else (alive H:Int))=(alive (frS H id).2.2:Int):=by
 unfold frS
 by_cases c:(fnd H id).2=0
 ·have:=alive_set H id.toNat _ zeroV (fnd_get c)
  simp only[if_pos c];omega
 ·by_cases g:(fnd H id).2=1
  ·simp only[if_neg c,if_pos g]
  ·simp only[if_neg c,if_neg g]
theorem spoil {γ:Type}{A:Nat→Int→List D→Option γ}{B:Nat→Int→List D→Bool→Option γ}
  (hA:∀n z l,A (n+1) z l=lenF l fun y=>(if z<y then B n z l true else B n z l false))
  (hB:∀n z l,B (n+1) z l true=needF (0≤z∧z.toNat<l.length) (getN l (z.toNat) fun x=>ds_t49 x fun z1 z2 s3 l4 z5 l6=>letF (IntKind.wrap .i64 (z+1)) fun z7=>setF l (z.toNat) (.agg [.int .u8 99,.int .i64 z2,.str s3,.list true 6 l4,.int .i64 z5,.list false 1 l6]) fun l8=>A n z7 l8))
  {r:γ} (hF:∀z l,Ev (fun n=>B n z l false) r) {l:List D} (h:ListS tab 49 l):Ev (fun n=>A n (0:Int) l) r:=by
 have loop:∀i:Nat,i≤l.length→∀m:List D,ListS tab 49 m→m.length=l.length→Ev (fun n=>A n (i:Int) m) r:=by
  refine down l.length ?_ ?_
  ·intro m hm hl
   refine .succ ?_
   simp only[hA,lenF,hl,Int.lt_irrefl,if_false]
   exact hF _ _
  ·intro i hi ih m hm hl
   obtain⟨v,hx,hmem,hv⟩:=rowV hm (show i<m.length by omega)
   refine .succ ?_
   simp only[hA,lenF,if_pos (show (i:Int)<(m.length:Int)by omega)]
   refine .succ ?_
   simp only[hB,need_pos (show 0≤(i:Int)∧(i:Int).toNat<m.length by omega)]
   simp only[show (i:Int).toNat=i from rfl,getN_some hx,ds25,letF,wrap_succ (show i<m.length by omega) hm.1,setF]
   refine ih _ (hm.set i ?_) (by rw[List.length_set];exact hl)
   exact mk49 rfl hv.i hv.nm hv.fs hv.id hv.pt
 exact loop 0 (Nat.zero_le _) l h rfl
theorem leads_b (v:VV) (n:Int):0≤leads v n∧leads v n≤6:=by
 unfold leads
 split
 ·omega
 ·split<;>omega
theorem getS_b:∀(q:List Int) (v:VV),0≤(getS q v).2∧(getS q v).2≤6
 | [],v=>by
  unfold getS
  split
  ·exact⟨by show (0:Int)≤3;decide,by show (3:Int)≤6;decide⟩
  ·exact⟨by show (0:Int)≤0;decide,by show (0:Int)≤6;decide⟩
 | n::q,v=>by
  unfold getS
  split
  ·exact getS_b q _
  ·exact leads_b v n
theorem setS_b (x:VV):∀(q:List Int) (v:VV),0≤(setS q v x).2∧(setS q v x).2≤6
 | [],v=>⟨by show (0:Int)≤0;decide,by show (0:Int)≤6;decide⟩
 | n::q,v=>by
  unfold setS
  split
  ·exact setS_b x q _
  ·exact leads_b v n
theorem fnd_b (H:List (VV×Bool)) (id:Int):0≤(fnd H id).2∧(fnd H id).2≤6:=by
 rcases fnd_cases H id with h | ⟨h,_⟩ | ⟨h,_⟩<;>omega
theorem rdS_b (H:List (VV×Bool)) (id:Int) (q:List Int):0≤(rdS H id q).2∧(rdS H id q).2≤6:=by
 unfold rdS
 split
 ·exact getS_b q _
 ·exact fnd_b H id
theorem swS_b (H:List (VV×Bool)) (id:Int) (q:List Int) (x:VV):0≤(swS H id q x).2.1∧(swS H id q x).2.1≤6:=by
 unfold swS
 split
 ·split
  ·exact⟨by show (0:Int)≤0;decide,by show (0:Int)≤6;decide⟩
  ·exact getS_b q _
 ·exact fnd_b H id
theorem ptS_b (H:List (VV×Bool)) (id:Int) (q:List Int) (x:VV):0≤(ptS H id q x).1∧(ptS H id q x).1≤6:=by
 unfold ptS
 split
 ·split
  ·split
   ·exact⟨by show (0:Int)≤0;decide,by show (0:Int)≤6;decide⟩
   ·exact⟨by show (0:Int)≤6;decide,by show (6:Int)≤6;decide⟩
  ·exact setS_b x q _
 ·exact fnd_b H id
theorem frS_b (H:List (VV×Bool)) (id:Int):0≤(frS H id).2.1∧(frS H id).2.1≤6:=by
 unfold frS
 split
 ·exact⟨by show (0:Int)≤0;decide,by show (0:Int)≤6;decide⟩
 ·split
  ·exact⟨by show (0:Int)≤2;decide,by show (2:Int)≤6;decide⟩
  ·exact⟨by show (0:Int)≤6;decide,by show (6:Int)≤6;decide⟩
theorem rdS_VT {H:List (VV×Bool)}(hH:HS H) (id:Int) (q:List Int):VT (rdS H id q).1:=by
 unfold rdS
 split
 ·exact getS_VT q (fnd_VS hH id)
 ·exact zeroV_VT
theorem swS_VT {H:List (VV×Bool)}(hH:HS H) (id:Int) (q:List Int) (x:VV):VT (swS H id q x).1:=by
 unfold swS
 split
 ·split
  ·exact getS_VT q (fnd_VS hH id)
  ·exact zeroV_VT
 ·exact zeroV_VT
theorem frS_VT {H:List (VV×Bool)}(hH:HS H) (id:Int):VT (frS H id).1:=by
 unfold frS
 split
 ·exact (fnd_VS hH id).t
 ·split<;>exact zeroV_VT
theorem iw6 {z:Int}(h:0≤z∧z≤6):IntKind.wrap .i64 z=z:=iw (by omega) (by omega)
abbrev One:=(Bool×Int×List D×List D) ⊕ (Bool×Int×List D×List D)
abbrev oneR (H:List (VV×Bool)):Bool×Int×List D×List D:=(true,(alive H:Int),enc 0 H,wm H)
def Fine (X:Nat→Option One):Prop:=∃H',HS H'∧(Ev X (.inl (oneR H'))∨Ev X (.inr (oneR H')))
theorem Fine.mono {X Y:Nat→Option One}(h:∀r,Ev Y r→Ev X r):Fine Y→Fine X:=fun⟨H',h1,h2⟩=>⟨H',h1,h2.imp (h _) (h _)⟩
theorem mine_loop {a:AA}(ha:AOK a) (M:List (VV×Bool)):Ev (fun n=>L62_11 n (alive M:Int) (enc 0 M) (wm M) true (0:Int) a.v.fs) (.inl (oneR M)):=
 spoil (A:=fun n z l=>L62_11 n (alive M:Int) (enc 0 M) (wm M) true z l) (B:=fun n z l b=>L62_12 n (alive M:Int) (enc 0 M) (wm M) true z l b) (fun n z l=>by simp only[L62_11]) (fun n z l=>by simp only[L62_12,if_true])
  (fun z l=>.succ (by simp only[L62_12,Bool.false_eq_true,if_false];exact .ret)) ha.v.t.fs
section
variable {H:List (VV×Bool)}(hH:HS H) {a:AA}(ha:AOK a)
include hH ha
theorem one_make:Fine (fun n=>L62_2 n a.kd a.id (pD a.q) a.v.k a.v.i a.v.nm a.v.fs a.v.id a.v.pt (alive H:Int) (enc 0 H) (wm H) a.v.k a.v.i a.v.nm a.v.id a.v.fs a.v.pt true):=by
 have hal:=alive_le H
 have hl:=hH.len
 by_cases c:H.length<1000
 ·refine⟨H++[(a.v,false)],hH.app c ha.v,.inr ?_⟩
  refine .succ ?_
  simp only[L62_2,if_true]
  refine Ev.bO4 (ev17' hH c ha.v (z:=(alive H:Int)) (by omega) (by omega)) ?_
  refine Ev.bSr (ev112 c ha.v) ?_
  refine Ev.bO2 .ret ?_
  simp only[if_true]
  refine Ev.bO1 (same_self ha.v.t) ?_
  rw[show ((alive H:Int))+1=(alive (H++[(a.v,false)]):Int)by rw[alive_app];omega]
  exact .ret
 ·have c':H.length=1000:=by omega
  refine⟨H,hH,.inl ?_⟩
  refine .succ ?_
  simp only[L62_2,if_true]
  refine Ev.bO4 (ev17full c' a.v (alive H:Int)) ?_
  refine Ev.bSl (ev112full c' a.v) ?_
  simp only[if_true]
  refine Ev.bO1 (same_self ha.v.t) ?_
  exact .ret
theorem one_read:Fine (fun n=>L62_3 n a.kd a.id (pD a.q) a.v.k a.v.i a.v.nm a.v.fs a.v.id a.v.pt (alive H:Int) (enc 0 H) (wm H) a.v.k a.v.i a.v.nm a.v.id a.v.fs a.v.pt true):=by
 have hq:a.q.length≤maxLen:=ha.t.ql
 have hv:=rdS_VT hH a.id a.q
 refine⟨H,hH,.inl ?_⟩
 refine .succ ?_
 simp only[L62_3,if_true]
 refine Ev.bO9 (ev12' hH a.id hq (alive H:Int)) (Ev.bO8 (ev113 hH a.id a.q) ?_)
 refine Ev.bO1 (same_self hv) ?_
 simp only[if_true,letF,iw6 (rdS_b H a.id a.q)]
 refine Ev.bO1 (same_self ha.v.t) ?_
 refine .succ ?_
 simp only[L62_8]
 exact spoil (A:=fun n z l=>L62_9 n a.v.fs (alive H:Int) (enc 0 H) (wm H) true z l) (B:=fun n z l b=>L62_10 n a.v.fs (alive H:Int) (enc 0 H) (wm H) true z l b) (fun n z l=>by simp only[L62_9]) (fun n z l=>by simp only[L62_10,if_true])
  (fun z l=>.succ (by simp only[L62_10,Bool.false_eq_true,if_false];exact mine_loop ha H)) hv.fs
theorem one_put:Fine (fun n=>L62_4 n a.kd a.id (pD a.q) a.v.k a.v.i a.v.nm a.v.fs a.v.id a.v.pt (alive H:Int) (enc 0 H) (wm H) a.v.k a.v.i a.v.nm a.v.id a.v.fs a.v.pt true):=by
 have hq:a.q.length≤maxLen:=ha.t.ql
 refine⟨(ptS H a.id a.q a.v).2,ptS_HS hH _ _ ha.v,.inl ?_⟩
 refine .succ ?_
 simp only[L62_4,if_true]
 refine Ev.bO5 (ev13' hH a.id hq ha.t.q ha.v (alive H:Int)) (Ev.bO2 (ev114 hH a.id a.q ha.v) ?_)
 refine Ev.bO1 (same_self zeroV_VT) ?_
 simp only[if_true,letF,iw6 (ptS_b H a.id a.q a.v)]
 refine Ev.bO1 (same_self ha.v.t) ?_
 rw[←ptS_alive H a.id a.q a.v]
 refine .succ ?_
 simp only[L62_13]
 refine .succ ?_
 simp only[L62_14]
 exact spoil (A:=fun n z l=>L62_15 n (alive (ptS H a.id a.q a.v).2:Int) (enc 0 (ptS H a.id a.q a.v).2) (wm (ptS H a.id a.q a.v).2) true z l) (B:=fun n z l b=>L62_16 n (alive (ptS H a.id a.q a.v).2:Int) (enc 0 (ptS H a.id a.q a.v).2) (wm (ptS H a.id a.q a.v).2) true z l b) (fun n z l=>by simp only[L62_15]) (fun n z l=>by simp only[L62_16,if_true])
  (fun z l=>.succ (by simp only[L62_16,Bool.false_eq_true,if_false];exact .ret)) ha.v.t.fs
theorem one_take:Fine (fun n=>L62_5 n a.kd a.id (pD a.q) a.v.k a.v.i a.v.nm a.v.fs a.v.id a.v.pt (alive H:Int) (enc 0 H) (wm H) a.v.k a.v.i a.v.nm a.v.id a.v.fs a.v.pt true):=by
 have hq:a.q.length≤maxLen:=ha.t.ql
 have hv:=swS_VT hH a.id a.q zeroV
 generalize hM:(swS H a.id a.q zeroV).2.2=M
 refine⟨M,hM▸swS_HS hH _ _ zeroV_VS,.inl ?_⟩
 refine .succ ?_
 simp only[L62_5,if_true]
 refine Ev.bO9 (ev11' hH a.id hq ha.t.q (alive H:Int)) (Ev.bO8 (ev116 hH a.id a.q) ?_)
 refine Ev.bO1 (same_self hv) ?_
 simp only[if_true,letF,iw6 (swS_b H a.id a.q zeroV)]
 refine Ev.bO1 (same_self ha.v.t) ?_
 rw[←swS_alive H a.id a.q zeroV,hM]
 refine .succ ?_
 simp only[L62_17]
 exact spoil (A:=fun n z l=>L62_18 n a.v.fs (alive M:Int) (enc 0 M) (wm M) true z l) (B:=fun n z l b=>L62_19 n a.v.fs (alive M:Int) (enc 0 M) (wm M) true z l b) (fun n z l=>by simp only[L62_18]) (fun n z l=>by simp only[L62_19,if_true])
  (fun z l=>.succ (by
   simp only[L62_19,Bool.false_eq_true,if_false]
   exact spoil (A:=fun n z l=>L62_20 n (alive M:Int) (enc 0 M) (wm M) true z l) (B:=fun n z l b=>L62_21 n (alive M:Int) (enc 0 M) (wm M) true z l b) (fun n z l=>by simp only[L62_20]) (fun n z l=>by simp only[L62_21,if_true])
    (fun z l=>.succ (by simp only[L62_21,Bool.false_eq_true,if_false];exact .ret)) ha.v.t.fs)) hv.fs
theorem one_swap:Fine (fun n=>L62_6 n a.kd a.id (pD a.q) a.v.k a.v.i a.v.nm a.v.fs a.v.id a.v.pt (alive H:Int) (enc 0 H) (wm H) a.v.k a.v.i a.v.nm a.v.id a.v.fs a.v.pt true):=by
 have hq:a.q.length≤maxLen:=ha.t.ql
 have hv:=swS_VT hH a.id a.q a.v
 generalize hM:(swS H a.id a.q a.v).2.2=M
 refine⟨M,hM▸swS_HS hH _ _ ha.v,.inl ?_⟩
 refine .succ ?_
 simp only[L62_6,if_true]
 refine Ev.bO11 (ev15o hH a.id hq ha.t.q ha.v (alive H:Int)) (Ev.bO8 (ev117 hH a.id a.q ha.v) ?_)
 refine Ev.bO1 (same_self hv) ?_
 simp only[if_true,letF,iw6 (swS_b H a.id a.q a.v)]
 refine Ev.bO1 (same_self ha.v.t) ?_
 rw[←swS_alive H a.id a.q a.v,hM]
 refine .succ ?_
 simp only[L62_22]
 exact spoil (A:=fun n z l=>L62_23 n (alive M:Int) (enc 0 M) a.v.fs (wm M) true z l) (B:=fun n z l b=>L62_24 n (alive M:Int) (enc 0 M) a.v.fs (wm M) true z l b) (fun n z l=>by simp only[L62_23]) (fun n z l=>by simp only[L62_24,if_true])
  (fun z l=>.succ (by
   simp only[L62_24,Bool.false_eq_true,if_false]
   exact spoil (A:=fun n z l=>L62_25 n (alive M:Int) (enc 0 M) (wm M) true z l) (B:=fun n z l b=>L62_26 n (alive M:Int) (enc 0 M) (wm M) true z l b) (fun n z l=>by simp only[L62_25]) (fun n z l=>by simp only[L62_26,if_true])
    (fun z l=>.succ (by simp only[L62_26,Bool.false_eq_true,if_false];exact .ret)) ha.v.t.fs)) hv.fs
theorem one_free:Fine (fun n=>L62_7 n a.id a.v.k a.v.i a.v.nm a.v.fs a.v.id a.v.pt (alive H:Int) (enc 0 H) (wm H) a.v.k a.v.i a.v.nm a.v.id a.v.fs a.v.pt true):=by
 have hal:=alive_le H
 have hl:=hH.len
 have hv:=frS_VT hH a.id
 have h16:=ev16' hH a.id (z:=(alive H:Int)) (by omega) (by omega)
 rw[frS_alive]at h16
 have hHS:=frS_HS hH a.id
 have h118:=ev118 hH a.id
 have hb:=frS_b H a.id
 generalize (frS H a.id).2.2=M at h16 h118 hHS
 refine⟨M,hHS,.inl ?_⟩
 refine .succ ?_
 simp only[L62_7,if_true]
 refine Ev.bO9 h16 (Ev.bO8 h118 ?_)
 refine Ev.bO1 (same_self hv) ?_
 simp only[if_true,letF,iw6 hb]
 refine Ev.bO1 (same_self ha.v.t) ?_
 refine .succ ?_
 simp only[L62_27]
 exact spoil (A:=fun n z l=>L62_28 n a.v.fs (alive M:Int) (enc 0 M) (wm M) true z l) (B:=fun n z l b=>L62_29 n a.v.fs (alive M:Int) (enc 0 M) (wm M) true z l b) (fun n z l=>by simp only[L62_28]) (fun n z l=>by simp only[L62_29,if_true])
  (fun z l=>.succ (by
   simp only[L62_29,Bool.false_eq_true,if_false]
   exact spoil (A:=fun n z l=>L62_30 n (alive M:Int) (enc 0 M) (wm M) true z l) (B:=fun n z l b=>L62_31 n (alive M:Int) (enc 0 M) (wm M) true z l b) (fun n z l=>by simp only[L62_30]) (fun n z l=>by simp only[L62_31,if_true])
    (fun z l=>.succ (by simp only[L62_31,Bool.false_eq_true,if_false];exact .ret)) ha.v.t.fs)) hv.fs
theorem one_none:Fine (fun n=>L62_7 n a.id a.v.k a.v.i a.v.nm a.v.fs a.v.id a.v.pt (alive H:Int) (enc 0 H) (wm H) a.v.k a.v.i a.v.nm a.v.id a.v.fs a.v.pt false):=by
 refine⟨H,hH,.inl ?_⟩
 refine .succ ?_
 simp only[L62_7,Bool.false_eq_true,if_false]
 refine Ev.bO1 (same_self zeroV_VT) ?_
 simp only[if_true,letF,iw6 (show (0:Int)≤0∧(0:Int)≤6 by omega)]
 refine Ev.bO1 (same_self ha.v.t) ?_
 refine .succ ?_
 simp only[L62_32]
 refine .succ ?_
 simp only[L62_33]
 exact spoil (A:=fun n z l=>L62_34 n (alive H:Int) (enc 0 H) (wm H) true z l) (B:=fun n z l b=>L62_35 n (alive H:Int) (enc 0 H) (wm H) true z l b) (fun n z l=>by simp only[L62_34]) (fun n z l=>by simp only[L62_35,if_true])
  (fun z l=>.succ (by simp only[L62_35,Bool.false_eq_true,if_false];exact .ret)) ha.v.t.fs
theorem one_fine:Fine (fun n=>F62 n a.kd a.id (pD a.q) a.v.k a.v.i a.v.nm a.v.fs a.v.id a.v.pt (alive H:Int) (enc 0 H) (wm H)):=by
 have h6:¬a.kd=5→Fine (fun n=>L62_6 n a.kd a.id (pD a.q) a.v.k a.v.i a.v.nm a.v.fs a.v.id a.v.pt (alive H:Int) (enc 0 H) (wm H) a.v.k a.v.i a.v.nm a.v.id a.v.fs a.v.pt false):=by
  intro _
  by_cases c:a.kd=6
  ·exact Fine.mono (fun r h=>.succ (by simp only[L62_6,Bool.false_eq_true,if_false,if_pos c];exact h)) (one_free hH ha)
  ·exact Fine.mono (fun r h=>.succ (by simp only[L62_6,Bool.false_eq_true,if_false,if_neg c];exact h)) (one_none hH ha)
 have h5:¬a.kd=4→Fine (fun n=>L62_5 n a.kd a.id (pD a.q) a.v.k a.v.i a.v.nm a.v.fs a.v.id a.v.pt (alive H:Int) (enc 0 H) (wm H) a.v.k a.v.i a.v.nm a.v.id a.v.fs a.v.pt false):=by
  intro _
  by_cases c:a.kd=5
  ·exact Fine.mono (fun r h=>.succ (by simp only[L62_5,Bool.false_eq_true,if_false,if_pos c];exact h)) (one_swap hH ha)
  ·exact Fine.mono (fun r h=>.succ (by simp only[L62_5,Bool.false_eq_true,if_false,if_neg c];exact h)) (h6 c)
 have h4:¬a.kd=3→Fine (fun n=>L62_4 n a.kd a.id (pD a.q) a.v.k a.v.i a.v.nm a.v.fs a.v.id a.v.pt (alive H:Int) (enc 0 H) (wm H) a.v.k a.v.i a.v.nm a.v.id a.v.fs a.v.pt false):=by
  intro _
  by_cases c:a.kd=4
  ·exact Fine.mono (fun r h=>.succ (by simp only[L62_4,Bool.false_eq_true,if_false,if_pos c];exact h)) (one_take hH ha)
  ·exact Fine.mono (fun r h=>.succ (by simp only[L62_4,Bool.false_eq_true,if_false,if_neg c];exact h)) (h5 c)
 have h3:¬a.kd=2→Fine (fun n=>L62_3 n a.kd a.id (pD a.q) a.v.k a.v.i a.v.nm a.v.fs a.v.id a.v.pt (alive H:Int) (enc 0 H) (wm H) a.v.k a.v.i a.v.nm a.v.id a.v.fs a.v.pt false):=by
  intro _
  by_cases c:a.kd=3
  ·exact Fine.mono (fun r h=>.succ (by simp only[L62_3,Bool.false_eq_true,if_false,if_pos c];exact h)) (one_put hH ha)
  ·exact Fine.mono (fun r h=>.succ (by simp only[L62_3,Bool.false_eq_true,if_false,if_neg c];exact h)) (h4 c)
 have h2:¬a.kd=1→Fine (fun n=>L62_2 n a.kd a.id (pD a.q) a.v.k a.v.i a.v.nm a.v.fs a.v.id a.v.pt (alive H:Int) (enc 0 H) (wm H) a.v.k a.v.i a.v.nm a.v.id a.v.fs a.v.pt false):=by
  intro _
  by_cases c:a.kd=2
  ·exact Fine.mono (fun r h=>.succ (by simp only[L62_2,Bool.false_eq_true,if_false,if_pos c];exact h)) (one_read hH ha)
  ·exact Fine.mono (fun r h=>.succ (by simp only[L62_2,Bool.false_eq_true,if_false,if_neg c];exact h)) (h3 c)
 unfold F62
 by_cases c0:a.kd=0
 ·refine Fine.mono (fun r h=>Ev.bO6 (ev29 ha.v) ?_) (one_make hH ha)
  simp only[if_pos c0]
  refine .succ ?_
  simp only[L62_1,if_true]
  exact h
 ·by_cases c1:a.kd=1
  ·refine Fine.mono (fun r h=>Ev.bO6 (ev29 ha.v) ?_) (one_make hH ha)
   simp only[if_neg c0]
   refine .succ ?_
   simp only[L62_1,Bool.false_eq_true,if_false,if_pos c1]
   exact h
  ·refine Fine.mono (fun r h=>Ev.bO6 (ev29 ha.v) ?_) (h2 c1)
   simp only[if_neg c0]
   refine .succ ?_
   simp only[L62_1,Bool.false_eq_true,if_false,if_neg c1]
   exact h
end
theorem plays_loop {l:List D}(hl:ListS tab 90 l) (hok:∀(j:Nat) (a:AA),l[j]?=some a.row→AOK a):
  ∀i:Nat,i≤l.length→∀H,HS H→Ev (fun n=>L13_5 n l (i:Int) (alive H:Int) (enc 0 H) (wm H)) true:=by
 refine down l.length ?_ ?_
 ·intro H hH
  refine .succ ?_
  simp only[L13_5,lenF,Int.lt_irrefl,if_false]
  exact .succ (by simp only[L13_6,Bool.false_eq_true,if_false];exact .ret)
 ·intro i hi ih H hH
  obtain⟨x,hx,_,hr⟩:=hl.get hi
  obtain⟨a,rfl,_⟩:=actRow hr
  have ha:=hok i a hx
  have next:∀M,HS M→Ev (fun n=>L13_7 n l (i:Int) false (alive M:Int) (enc 0 M) (wm M)) true:=by
   intro M hM
   refine .succ ?_
   simp only[L13_7,Bool.false_eq_true,if_false,letF,wrap_succ hi hl.1]
   exact ih M hM
  obtain⟨M,hM,h⟩:=one_fine hH ha
  have hal:=alive_le M
  have hml:=hM.len
  refine .succ ?_
  simp only[L13_5,lenF,if_pos (ilt hi)]
  refine .succ ?_
  simp only[L13_6,if_true,getF_nat hx,ds28]
  rcases h with h | h
  ·refine Ev.bSl h (Ev.bO4 .ret ?_)
   simp only[letB,Bool.not_true,Bool.false_eq_true,if_false]
   refine Ev.bO3 (ev18' M (alive M:Int)) ?_
   simp only[lenF,List.length_map,if_true]
   refine Ev.bO3 (ev20' (enc 0 M) (alive M:Int)) ?_
   refine Ev.bO2 (ev63 M hml) ?_
   simp only[if_true]
   refine Ev.bO3 (ev21' M hml (alive M:Int)) ?_
   simp only[List.length_map,letF,iw (show -9223372036854775808≤1000 - (M.length:Int)by omega) (by omega),if_true]
   refine Ev.bO3 (ev19' M a.id (alive M:Int)) ?_
   refine Ev.bO2 (ev64 M a.id) ?_
   by_cases c:(fnd M a.id).2=0
   ·simp only[if_pos c,decide_eq_true c,beq_self_eq_true,Bool.not_true]
    exact next M hM
   ·simp only[if_neg c,decide_eq_false c,beq_self_eq_true,Bool.not_true]
    exact next M hM
  ·refine Ev.bSr h (Ev.bO4 .ret ?_)
   simp only[letB,Bool.not_true,Bool.false_eq_true,if_false]
   refine Ev.bO3 (ev18' M (alive M:Int)) ?_
   simp only[lenF,List.length_map,if_true]
   refine Ev.bO3 (ev20' (enc 0 M) (alive M:Int)) ?_
   refine Ev.bO2 (ev63 M hml) ?_
   simp only[if_true]
   refine Ev.bO3 (ev21' M hml (alive M:Int)) ?_
   simp only[List.length_map,letF,iw (show -9223372036854775808≤1000 - (M.length:Int)by omega) (by omega),if_true]
   refine Ev.bO3 (ev19' M a.id (alive M:Int)) ?_
   refine Ev.bO2 (ev64 M a.id) ?_
   by_cases c:(fnd M a.id).2=0
   ·simp only[if_pos c,decide_eq_true c,beq_self_eq_true,Bool.not_true]
    exact next M hM
   ·simp only[if_neg c,decide_eq_false c,beq_self_eq_true,Bool.not_true]
    exact next M hM
theorem ahead_loop {k:Nat}{l:List D}(hl:ListS tab 90 l) (hok:∀(j:Nat) (a:AA),l[j]?=some a.row→AOK a) (hk:k≤1000):
  ∀i:Nat,i≤k→∀H,HS H→Ev (fun n=>L13_2 n (k:Int) l (i:Int) (alive H:Int) (enc 0 H) (wm H)) true:=by
 refine down k ?_ ?_
 ·intro H hH
  refine .succ ?_
  simp only[L13_2,Int.lt_irrefl,if_false]
  exact .succ (by simp only[L13_3,Bool.false_eq_true,if_false];exact plays_loop hl hok 0 (Nat.zero_le _) H hH)
 ·intro i hi ih H hH
  have h1:VS ⟨1,1,ByteArray.empty,[],0,[]⟩:=⟨⟨rfl,rfl,(show ByteArray.empty.size≤maxLen by decide),.nil,rfl,.nil⟩,by simp,.nil⟩
  have ha:AOK ⟨0,0,[],⟨1,1,ByteArray.empty,[],0,[]⟩⟩:=⟨⟨rfl,rfl,by simp,by simp,h1.t⟩,by simp,h1⟩
  have next:∀M,HS M→Ev (fun n=>L13_4 n (k:Int) l (i:Int) false (alive M:Int) (enc 0 M) (wm M)) true:=by
   intro M hM
   refine .succ ?_
   simp only[L13_4,Bool.false_eq_true,if_false,letF]
   rw[iw (by omega) (by omega)]
   exact ih M hM
  obtain⟨M,hM,h⟩:=one_fine hH ha
  refine .succ ?_
  simp only[L13_2,if_pos (ilt hi)]
  refine .succ ?_
  simp only[L13_3,if_true]
  rcases h with h | h
  ·refine Ev.bSl h (Ev.bO4 .ret ?_)
   simp only[letB,Bool.not_true]
   exact next M hM
  ·refine Ev.bSr h (Ev.bO4 .ret ?_)
   simp only[letB,Bool.not_true]
   exact next M hM
theorem plays_law (z1:Int) {l:List D}(hl:ListS tab 90 l):Ev (fun n=>F13 n z1 l) true:=by
 have f60:∀n,F60 n=some ():=fun n=>rfl
 have f61:∀n,F61 n=some ():=fun n=>rfl
 have yes:Ev (fun n=>L13_1 n z1 l true) true:=.succ (by simp only[L13_1,if_true];exact .ret)
 unfold F13
 by_cases c1:z1<0
 ·simp only[if_pos c1];exact yes
 by_cases c2:1000<z1
 ·simp only[if_neg c1,if_pos c2];exact yes
 simp only[if_neg c1,if_neg c2]
 obtain⟨b,b1,b2⟩:=ev7 hl
 refine Ev.bO1 b1 ?_
 cases b with
 | true=>exact yes
 | false=>
  refine .succ ?_
  simp only[L13_1,Bool.false_eq_true,if_false]
  obtain⟨k,rfl⟩:∃k:Nat,z1=(k:Int):=⟨z1.toNat,by omega⟩
  exact Ev.bO0 (.of f60) (Ev.bO0 (.of f61) (ahead_loop hl (b2 rfl).2 (by omega) 0 (Nat.zero_le _) [] HS.nil))
theorem heap_plays_trip:∀xs:List D,Shapes tab [3,92] xs→Trip Try.prog inv 13 (xs.map V1.d) [] (.v (.d (.bool true))) [] []:=by
 intro xs h
 match xs,h with
 | [u,v],⟨u1,u2,v1,v2,_⟩=>
  obtain⟨a,rfl,_⟩:=rs3 ⟨u1,u2⟩
  obtain⟨l,rfl,hl⟩:=rs92 ⟨v1,v2⟩
  obtain⟨n,hn⟩:=(plays_law a hl).run
  exact T13 n hn
end Go.Proofs.Ytiiojajgajnhpaa
end
namespace Go.Proofs.Ytiiojajgajnhpaa
open Go Go.ChangeShapes Go.WideShapes Go.ChangeAt Go.RowKit Go.AM
theorem heap_plays_reads:∀t∈[3,92],Try.prog.readableRec t=true∧t<Try.prog.types.size:=by
 have h:([3,92].all fun t=>Try.prog.readableRec t&&decide (t<Try.prog.types.size))=true:=by kernel_rfl
 intro t ht
 have:=List.all_eq_true.1 h t ht
 simpa using this
set_option maxRecDepth 100000 in
theorem heap_plays_lifted (os:Os) (started:os.Started) (H:Type) (enc:TypeId×Value→H):
  ReturnsInHanded {} Try.checked os 13 .any (Rows.heapPlaysSpec.pre6 enc Try.prog Try.f13 Rows.heapPlaysRow.domain false) (Rows.heapPlaysSpec.post enc Try.prog Try.f13 false true false false):=by
 refine returnsInHanded_of_change (C:=Try.checked) (by kernel_rfl) started (by kernel_rfl) Try.func13
  (ChangeSpec.witness6 (enc:=enc) (C:=Try.checked) false ⟨#[],#[.int .i64 0,.slice none 0 0],[]⟩ 8 (by kernel_rfl) (by kernel_rfl) (by kernel_rfl) (by kernel_rfl)) ?_
 intro W base args ds gs before hval0 hW _ _
 refine law_calls (ti:=tab) (T:=[2,3,5,9,46,47,49,90,92]) tab_ok (by kernel_rfl) (ts:=[3,92]) (bt:=4) rfl rfl rfl (by kernel_rfl) (by decide) ?_ (by kernel_rfl) heap_plays_reads heap_plays_trip ⟨trivial,fun _ h=>h.elim⟩ hval0 hW
 intro ds h
 match ds,h with
 | [_,_],_=>exact⟨rfl,rfl,rfl⟩
theorem heap_plays:Rows.HeapPlaysSaid:=
 OpenClaim.holds_of_wide 13 Try.f13 rfl rfl rfl rfl rfl rfl rfl ⟨rfl,rfl,rfl,rfl,rfl⟩ rfl rfl rfl rfl rfl (by kernel_rfl) Try.func13 (by kernel_rfl)
  (of_decide_eq_true (by kernel_rfl)) (by unfold Func.isWrapper;first | (rw[if_pos (by decide+kernel)];kernel_rfl) | (rw[if_neg (by decide+kernel)];exact⟨rfl,rfl⟩))
  (fun os started H enc _=>heap_plays_lifted os started H enc)
end Go.Proofs.Ytiiojajgajnhpaa
