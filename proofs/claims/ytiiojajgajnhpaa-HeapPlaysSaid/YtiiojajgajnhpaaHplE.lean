/- Part of a proof. No condition. (Part 5: HpA, YtiiojajgajnhpaaX107, YtiiojajgajnhpaaX59, YtiiojajgajnhpaaX51, YtiiojajgajnhpaaX108, YtiiojajgajnhpaaX52, YtiiojajgajnhpaaX54, YtiiojajgajnhpaaX111, YtiiojajgajnhpaaX109, YtiiojajgajnhpaaX55, YtiiojajgajnhpaaX56, YtiiojajgajnhpaaX57, YtiiojajgajnhpaaX58, YtiiojajgajnhpaaX110, YtiiojajgajnhpaaX.) -/
import Derived.Carry
import Derived.ChangeSame
import Derived.ChangeOld
import Derived.ChangeCalls
import Derived.WideShapes
import Derived.Test.YtiiojajgajnhpaaHplD
set_option linter.unusedVariables false
set_option linter.unusedSimpArgs false
set_option linter.unusedVariables false
noncomputable section
namespace Go.Proofs.Ytiiojajgajnhpaa
open Go Go.AM
theorem iw {z:Int}(h1: -9223372036854775808≤z) (h2:z≤9223372036854775807):IntKind.i64.wrap z=z:=IntWalk.i64_in _ (by omega)
theorem ilt {i n:Nat}(h:i<n):(i:Int)<(n:Int):=by omega
theorem need_pos {γ:Type}{p:Prop} [Decidable p] (h:p) (x:Option γ):needF p x=x:=if_pos h
theorem appF_ok {γ:Type}{b:Nat}{L M:List D}{k:List D→Option γ}(h:L.length+M.length≤maxLen∧(L.length+M.length)*b≤140737488355328):appF b L M k=k (L++M):=by
 unfold appF
 exact if_pos h
theorem getN_some {γ:Type}{L:List D}{i:Nat}{x:D}{k:D→Option γ}(h:L[i]?=some x):getN L i k=k x:=by unfold getN;rw[h]
structure VV where
 k:Int
 i:Int
 nm:ByteArray
 fs:List D
 id:Int
 pt:List D
def VV.row (v:VV):D:=.agg [.int .u8 v.k,.int .i64 v.i,.str v.nm,.list true 6 v.fs,.int .i64 v.id,.list false 1 v.pt]
def zeroV:VV:=⟨0,0,ByteArray.empty,[],0,[]⟩
def un:D→VV
 | .agg [.int _ a0,.int _ a1,.str a2,.list _ _ a3,.int _ a4,.list _ _ a5]=>⟨a0,a1,a2,a3,a4,a5⟩
 | _=>zeroV
theorem un_row (v:VV):un v.row=v:=rfl
theorem row_inj {v w:VV}(h:v.row=w.row):v=w:=by rw[←un_row v,h,un_row]
structure VT (v:VV):Prop where
 k:(Lit.int .u8 v.k).wf=true
 i:(Lit.int .i64 v.i).wf=true
 nm:v.nm.size≤maxLen
 fs:ListS tab 49 v.fs
 id:(Lit.int .i64 v.id).wf=true
 pt:ListS tab 3 v.pt
inductive Sm:List D→Prop
 | mk {l:List D} (h:l.length≤1000) (hp:∀v:VV,v.row∈l→v.pt.length≤10000) (hf:∀v:VV,v.row∈l→Sm v.fs):Sm l
theorem Sm.len {l:List D}(h:Sm l):l.length≤1000:=by cases h;assumption
theorem Sm.pt {l:List D}(h:Sm l) {v:VV}(hv:v.row∈l):v.pt.length≤10000:=by
 cases h with
 | mk h hp hf=>exact hp v hv
theorem Sm.fs {l:List D}(h:Sm l) {v:VV}(hv:v.row∈l):Sm v.fs:=by
 cases h with
 | mk h hp hf=>exact hf v hv
structure VS (v:VV):Prop where
 t:VT v
 p:v.pt.length≤10000
 f:Sm v.fs
theorem rowV {l:List D}(h:ListS tab 49 l) {i:Nat}(hi:i<l.length):∃v:VV,l[i]?=some v.row∧v.row∈l∧VT v:=by
 obtain⟨x,hx,hm,hr⟩:=h.get hi
 obtain⟨a0,a1,a2,a3,a4,a5,rfl,w0,w1,w2,w3,w4,w5⟩:=rs49 hr
 exact⟨⟨a0,a1,a2,a3,a4,a5⟩,hx,hm,⟨w0,w1,w2,w3,w4,w5⟩⟩
theorem ds25 {γ:Type}(v:VV) (k:Int→Int→ByteArray→List D→Int→List D→Option γ):ds_t49 v.row k=k v.k v.i v.nm v.fs v.id v.pt:=rfl
theorem size_fs {l:List D}{v:VV}(h:v.row∈l):SizeOf.sizeOf v.fs<SizeOf.sizeOf l:=size_row (ag:=true) (sz:=6) h (by simp)
theorem intsS {l:List D}(h:ListS tab 3 l):∃q:List Int,l=q.map (D.int .i64)∧∀z∈q,(Lit.int .i64 z).wf=true:=by
 induction l with
 | nil=>exact⟨[],rfl,by simp⟩
 | cons x l ih=>
  obtain⟨q,rfl,hq⟩:=ih ⟨by have:=h.1;simp only[List.length_cons]at this;omega,fun y hy=>h.2 y (List.mem_cons_of_mem _ hy)⟩
  obtain⟨z,rfl,hz⟩:=rs3 (h.2 x (by simp))
  exact⟨z::q,rfl,fun y hy=>by rcases List.mem_cons.1 hy with rfl | hy;exact hz;exact hq y hy⟩
abbrev pD (q:List Int):List D:=q.map (D.int .i64)
theorem ev24 (l:List D):ListS tab 49 l→∀z:Int,-1≤z→z≤10000→∃r,Ev (fun n=>F92 n l z) r∧ -1≤r∧r≤z+0∧(0≤r→Sm l∧10*(l.length:Int)≤z - r):=by
 refine list_ind (P:=fun l=>ListS tab 49 l→∀z:Int,-1≤z→z≤10000→∃r,Ev (fun n=>F92 n l z) r∧ -1≤r∧r≤z+0∧(0≤r→Sm l∧10*(l.length:Int)≤z - r)) (fun l ih h=>?_) l
 have loop:∀i:Nat,i≤l.length→∀z:Int,-1≤z→z≤10000→∃r,Ev (fun n=>L92_1 n l z (i:Int)) r∧ -1≤r∧r≤z∧
   (0≤r→10*((l.length:Int) - i)≤z - r∧∀j:Nat,i≤j→∀v:VV,l[j]?=some v.row→v.pt.length≤10000∧Sm v.fs):=by
  refine down l.length ?_ ?_
  ·intro z h1 h2
   refine⟨z,.succ ?_,h1,Int.le_refl _,fun _=>⟨by omega,fun j hj v hv=>absurd ((List.getElem?_eq_some_iff.1 hv).1) (by omega)⟩⟩
   simp only[L92_1,lenF,Int.lt_irrefl,if_false]
   exact .succ (by simp only[L92_2,Bool.false_eq_true,if_false];exact .ret)
  ·intro i hi ihd z h1 h2
   by_cases hz:0≤z
   ·obtain⟨v,hx,hm,hv⟩:=rowV h hi
    have hw:=iw (z:=z - 10) (by omega) (by omega)
    have fail:∀z14,∃r,Ev (fun n=>L92_3 n l (i:Int) v.nm v.fs v.pt z14 true) r∧r= -1:=fun z14=>⟨-1,.succ (by simp only[L92_3,if_true];exact .ret),rfl⟩
    have hsz:v.nm.size=(v.nm.data.toList).length:=(Array.length_toList (xs:=v.nm.data)).symm
    by_cases c1:z - 10<0
    ·refine⟨-1,.succ ?_,by omega,by omega,by omega⟩
     simp only[L92_1,lenF,if_pos (ilt hi),if_pos hz]
     refine .succ ?_
     simp only[L92_2,if_true,getF_nat hx,ds25,letF,hw,if_pos c1]
     exact .succ (by simp only[L92_3,if_true];exact .ret)
    by_cases c2:z - 10<(v.nm.size:Int)
    ·refine⟨-1,.succ ?_,by omega,by omega,by omega⟩
     simp only[L92_1,lenF,if_pos (ilt hi),if_pos hz]
     refine .succ ?_
     simp only[L92_2,if_true,getF_nat hx,ds25,letF,hw,if_neg c1,szF,if_pos c2]
     exact .succ (by simp only[L92_3,if_true];exact .ret)
    have hw2:=iw (z:=z - 10 - (v.nm.size:Int)) (by omega) (by omega)
    by_cases c3:z - 10 - (v.nm.size:Int)<(v.pt.length:Int)
    ·refine⟨-1,.succ ?_,by omega,by omega,by omega⟩
     simp only[L92_1,lenF,if_pos (ilt hi),if_pos hz]
     refine .succ ?_
     simp only[L92_2,if_true,getF_nat hx,ds25,letF,hw,if_neg c1,szF,if_neg c2,lenF,hw2,if_pos c3]
     exact .succ (by simp only[L92_3,if_true];exact .ret)
    have hw3:=iw (z:=z - 10 - (v.nm.size:Int) - (v.pt.length:Int)) (by omega) (by omega)
    obtain⟨y,e1,e2,e3,e4⟩:=ih v.fs (size_fs hm) hv.fs (z - 10 - (v.nm.size:Int) - (v.pt.length:Int)) (by omega) (by omega)
    obtain⟨r,k1,k2,k3,k4⟩:=ihd y (by omega) (by omega)
    refine⟨r,.succ ?_,k2,by omega,fun hr=>⟨?_,?_⟩⟩
    ·simp only[L92_1,lenF,if_pos (ilt hi),if_pos hz]
     refine .succ ?_
     simp only[L92_2,if_true,getF_nat hx,ds25,letF,hw,if_neg c1,szF,if_neg c2,lenF,hw2,if_neg c3]
     refine .succ ?_
     simp only[L92_3,Bool.false_eq_true,if_false,szF,letF,hw2,lenF,hw3]
     refine Ev.bO1 e1 ?_
     simp only[letF,wrap_succ hi h.1]
     exact k1
    ·have:=(k4 hr).1
     have:=(e4 (by omega)).2
     omega
    ·intro j hj w hw'
     by_cases e:j=i
     ·subst e
      rw[hx]at hw'
      obtain rfl:=row_inj (Option.some.inj hw')
      exact⟨by omega,(e4 (by omega)).1⟩
     ·exact (k4 hr).2 j (by omega) w hw'
   ·refine⟨z,.succ ?_,h1,Int.le_refl _,by omega⟩
    simp only[L92_1,lenF,if_pos (ilt hi),if_neg hz]
    exact .succ (by simp only[L92_2,Bool.false_eq_true,if_false];exact .ret)
 intro z h1 h2
 obtain⟨r,k1,k2,k3,k4⟩:=loop 0 (Nat.zero_le _) z h1 h2
 refine⟨r,.succ (by simp only[F92];exact k1),k2,by omega,fun hr=>?_⟩
 obtain⟨q1,q2⟩:=k4 hr
 refine⟨.mk (by omega) (fun v hv=>?_) (fun v hv=>?_),by omega⟩
 ·obtain⟨j,hj⟩:=List.getElem?_of_mem hv
  exact (q2 j (Nat.zero_le _) v hj).1
 ·obtain⟨j,hj⟩:=List.getElem?_of_mem hv
  exact (q2 j (Nat.zero_le _) v hj).2
theorem VT.rowS {v:VV}(h:VT v):RowS tab 49 v.row:=mk49 h.k h.i h.nm h.fs h.id h.pt
theorem Ev.nilF {l:List D}{A B:Nat→Option (List D)}{r:List D}(hB:Ev B r) (hA:l=[]→Ev A r):Ev (fun n=>nilF l (A n) (B n)) r:=by
 by_cases e:l=[]
 ·obtain⟨N,h1⟩:=hA e
  obtain⟨M,h2⟩:=hB
  refine⟨N+M,fun n hn=>?_⟩
  show AM.nilF l (A n) (B n)=some r
  rw[nilF_eq (fun _=>by rw[h1 n (by omega),h2 n (by omega)])]
  exact h2 n (by omega)
 ·obtain⟨M,h2⟩:=hB
  refine⟨M,fun n hn=>?_⟩
  show AM.nilF l (A n) (B n)=some r
  rw[nilF_eq (fun h=>absurd h e)]
  exact h2 n hn
theorem scal_ints {l:List D}(h:ListS tab 3 l):scalB l=true:=by
 obtain⟨q,rfl,_⟩:=intsS h
 unfold scalB
 simp[D.cells,isCon]
theorem ev26 {l:List D}(h:ListS tab 3 l) (hl:l.length≤10000):Ev (fun n=>F141 n l) l:=by
 unfold F141
 refine Ev.nilF (.succ ?_) (fun e=>?_)
 ·have hM:10000<maxLen:=by decide
  simp only[L141_1,Bool.false_eq_true,if_false]
  rw[need_pos (scal_ints h)]
  unfold appF
  rw[if_pos (by simp only[List.length_nil];omega)]
  exact .ret
 ·subst e
  exact .succ (by simp only[L141_1,if_true];exact .ret)
theorem ev10L (l:List D):ListS tab 49 l→Sm l→∀(z1 z2:Int) (s3:ByteArray) (z5:Int) (l6:List D),ListS tab 3 l6→l6.length≤10000→Ev (fun n=>F95 n z1 z2 s3 l z5 l6) (z1,z2,s3,z5,l,l6):=by
 refine list_ind (P:=fun l=>ListS tab 49 l→Sm l→∀(z1 z2:Int) (s3:ByteArray) (z5:Int) (l6:List D),ListS tab 3 l6→l6.length≤10000→Ev (fun n=>F95 n z1 z2 s3 l z5 l6) (z1,z2,s3,z5,l,l6)) (fun l ih h hs z1 z2 s3 z5 l6 h6 h6'=>?_) l
 have hM:10000<maxLen:=by decide
 have hl:=hs.len
 have loop:∀i:Nat,i≤l.length→Ev (fun n=>L95_1 n z1 z2 s3 l z5 l6 (l.length:Int) (i:Int) (l.take i)) (z1,z2,s3,z5,l,l6):=by
  refine down l.length ?_ ?_
  ·refine .succ ?_
   simp only[L95_1,Int.lt_irrefl,if_false]
   refine .succ ?_
   simp only[L95_2,Bool.false_eq_true,if_false,List.take_length]
   exact Ev.bO1 (ev26 h6 h6') .ret
  ·intro i hi ihd
   obtain⟨v,hx,hm,hv⟩:=rowV h hi
   have ht:l.take (i+1)=l.take i++[v.row]:=by rw[List.take_add_one,hx];rfl
   refine .succ ?_
   simp only[L95_1,if_pos (ilt hi)]
   refine .succ ?_
   simp only[L95_2,if_true,getF_nat hx,ds25]
   refine Ev.bO6 (ih v.fs (size_fs hm) hv.fs (hs.fs hm) v.k v.i v.nm v.id v.pt hv.pt (hs.pt hm)) ?_
   have hb:(l.take i).length+[v.row].length≤maxLen∧((l.take i).length+[v.row].length)*88≤140737488355328:=by simp only[List.length_take,List.length_cons,List.length_nil];omega
   have ha:∀k:List D→Option (Int×Int×ByteArray×Int×List D×List D),appF 88 (l.take i) [.agg [.int .u8 v.k,.int .i64 v.i,.str v.nm,.list true 6 v.fs,.int .i64 v.id,.list false 1 v.pt]] k=k (l.take i++[v.row]):=fun k=>appF_ok hb
   simp only[ha,letF,wrap_succ hi h.1]
   rw[ht]at ihd
   exact ihd
 refine .succ ?_
 simp only[F95,lenF]
 exact loop 0 (Nat.zero_le _)
theorem ev10 {v:VV}(h:VS v):Ev (fun n=>F95 n v.k v.i v.nm v.fs v.id v.pt) (v.k,v.i,v.nm,v.id,v.fs,v.pt):=ev10L v.fs h.t.fs h.f _ _ _ _ _ h.t.pt h.p
theorem ev10z {v:VV}(h:VS v):Ev (fun n=>F95z n v.k v.i v.nm v.fs v.id v.pt) (v.k,v.i,v.nm,v.fs,v.id,v.pt):=by
 have hM:10000<maxLen:=by decide
 have hl:=h.f.len
 have loop:∀i:Nat,i≤v.fs.length→Ev (fun n=>L95z_1 n v.k v.i v.nm v.fs v.id v.pt (v.fs.length:Int) (i:Int) (v.fs.take i)) (v.k,v.i,v.nm,v.fs,v.id,v.pt):=by
  refine down _ ?_ ?_
  ·refine .succ ?_
   simp only[L95z_1,Int.lt_irrefl,if_false]
   refine .succ ?_
   simp only[L95z_2,Bool.false_eq_true,if_false,List.take_length]
   exact Ev.bO1 (ev26 h.t.pt h.p) .ret
  ·intro i hi ihd
   obtain⟨w,hx,hm,hv⟩:=rowV h.t.fs hi
   have ht:v.fs.take (i+1)=v.fs.take i++[w.row]:=by rw[List.take_add_one,hx];rfl
   have hb:(v.fs.take i).length+[w.row].length≤maxLen∧((v.fs.take i).length+[w.row].length)*88≤140737488355328:=by simp only[List.length_take,List.length_cons,List.length_nil];omega
   have ha:∀k:List D→Option (Int×Int×ByteArray×List D×Int×List D),appF 88 (v.fs.take i) [.agg [.int .u8 w.k,.int .i64 w.i,.str w.nm,.list true 6 w.fs,.int .i64 w.id,.list false 1 w.pt]] k=k (v.fs.take i++[w.row]):=fun k=>appF_ok hb
   refine .succ ?_
   simp only[L95z_1,if_pos (ilt hi)]
   refine .succ ?_
   simp only[L95z_2,if_true,getF_nat hx,ds25]
   refine Ev.bO6 (ev10 ⟨hv,h.f.pt hm,h.f.fs hm⟩) ?_
   simp only[ha,letF,wrap_succ hi h.t.fs.1]
   rw[ht]at ihd
   exact ihd
 unfold F95z
 simp only[lenF]
 exact loop 0 (Nat.zero_le _)
theorem ints_ev {q q':List Int}(h:q.length≤maxLen):Ev (fun n=>F98 n (pD q) (pD q')) (decide (q=q')):=by
 unfold F98
 simp only[lenF,List.length_map]
 by_cases e:q.length=q'.length
 ·simp only[if_pos (show (q.length:Int)=(q'.length:Int)by omega)]
  refine .succ ?_
  simp only[L98_1,Bool.false_eq_true,if_false]
  have loop:∀i:Nat,i≤q.length→Ev (fun n=>L98_2 n (pD q) (pD q') (i:Int)) (decide (q.drop i=q'.drop i)):=by
   refine down _ ?_ (fun i hi ih=>?_)
   ·refine .succ ?_
    simp only[L98_2,lenF,List.length_map,Int.lt_irrefl,if_false]
    rw[List.drop_length,e,List.drop_length,decide_eq_true rfl]
    exact .succ (by simp only[L98_3,Bool.false_eq_true,if_false];exact .ret)
   ·have hi':i<q'.length:=by omega
    have h1:(pD q)[i]?=some (.int .i64 q[i]):=by simp[hi]
    have h2:(pD q')[i]?=some (.int .i64 q'[i]):=by simp[hi']
    have d1:=List.drop_eq_getElem_cons hi
    have d2:=List.drop_eq_getElem_cons hi'
    refine .succ ?_
    simp only[L98_2,lenF,List.length_map,if_pos (ilt hi)]
    refine .succ ?_
    simp only[L98_3,if_true,getF_nat h1,getF_nat h2,ds_i64]
    by_cases c:q[i]=q'[i]
    ·simp only[if_pos c]
     refine .succ ?_
     simp only[L98_4,Bool.false_eq_true,if_false,letF,wrap_succ hi h]
     have:decide (q.drop i=q'.drop i)=decide (q.drop (i+1)=q'.drop (i+1)):=by
      rw[d1,d2,c];exact decide_eq_decide.2 ⟨fun h=>(List.cons.inj h).2,fun h=>by rw[h]⟩
     rw[this]
     exact ih
    ·simp only[if_neg c]
     rw[decide_eq_false (by rw[d1,d2];intro h;exact c (List.cons.inj h).1)]
     exact .succ (by simp only[L98_4,if_true];exact .ret)
  have:=loop 0 (Nat.zero_le _)
  simpa using this
 ·simp only[if_neg (show ¬(q.length:Int)=(q'.length:Int)by omega)]
  rw[decide_eq_false (fun h=>e (congrArg _ h))]
  exact .succ (by simp only[L98_1,if_true];exact .ret)
theorem pD_inj {q q':List Int}(h:pD q=pD q'):q=q':=by
 induction q generalizing q' with
 | nil=>cases q'<;>simp_all
 | cons a q ih=>
  cases q' with
  | nil=>simp at h
  | cons b q'=>
   simp only[List.map_cons,List.cons.injEq,D.int.injEq,true_and]at h
   rw[h.1,ih h.2]
open Classical in
theorem same_of (v w:VV) (hv:VT v) (hw:VT w) (hfs:Ev (fun n=>F48 n v.fs w.fs) (decide (v.fs=w.fs))):
  Ev (fun n=>F34 n v.k v.i v.nm v.fs v.id v.pt w.k w.i w.nm w.fs w.id w.pt) (decide (v=w)):=by
 have no:v≠w→Ev (fun _=>some false) (decide (v=w)):=fun h=>by rw[decide_eq_false h];exact .ret
 refine .succ ?_
 simp only[F34]
 by_cases c1:v.k=w.k
 rotate_left
 ·simp only[if_neg c1];exact no (fun h=>c1 (by rw[h]))
 by_cases c2:v.i=w.i
 rotate_left
 ·simp only[if_pos c1,if_neg c2];exact no (fun h=>c2 (by rw[h]))
 by_cases c3:v.nm=w.nm
 rotate_left
 ·simp only[if_pos c1,if_pos c2,if_neg c3];exact no (fun h=>c3 (by rw[h]))
 by_cases c4:v.id=w.id
 rotate_left
 ·simp only[if_pos c1,if_pos c2,if_pos c3,if_neg c4];exact no (fun h=>c4 (by rw[h]))
 simp only[if_pos c1,if_pos c2,if_pos c3,if_pos c4]
 obtain⟨q,e1,_⟩:=intsS hv.pt
 obtain⟨q',e2,_⟩:=intsS hw.pt
 have hq:q.length≤maxLen:=by have:=hv.pt.1;rw[e1]at this;simpa using this
 rw[e1,e2]
 refine Ev.bO1 (ints_ev hq) ?_
 by_cases c5:q=q'
 rotate_left
 ·simp only[decide_eq_false c5,Bool.false_eq_true,if_false]
  exact no (fun h=>c5 (pD_inj (e1.symm.trans ((congrArg VV.pt h).trans e2))))
 simp only[decide_eq_true c5,if_true]
 refine Ev.bO1 hfs ?_
 have:decide (v.fs=w.fs)=decide (v=w):=by
  refine decide_eq_decide.2 ⟨fun h=>?_,fun h=>by rw[h]⟩
  have e3:v.pt=w.pt:=by rw[e1,e2,c5]
  obtain⟨a,b,c,d,e,f⟩:=v
  obtain⟨a',b',c',d',e',f'⟩:=w
  simp only[VV.mk.injEq]
  exact⟨c1,c2,c3,h,c4,e3⟩
 rw[this]
 exact .ret
open Classical in
theorem sameL (l:List D):∀m,ListS tab 49 l→ListS tab 49 m→Ev (fun n=>F48 n l m) (decide (l=m)):=by
 refine list_ind (P:=fun l=>∀m,ListS tab 49 l→ListS tab 49 m→Ev (fun n=>F48 n l m) (decide (l=m))) (fun l ih m h hm=>?_) l
 refine .succ ?_
 simp only[F48,lenF]
 by_cases e:l.length=m.length
 rotate_left
 ·simp only[if_neg (show ¬(l.length:Int)=(m.length:Int)by omega)]
  rw[decide_eq_false (fun h=>e (congrArg _ h))]
  exact .succ (by simp only[L48_1,if_true];exact .ret)
 simp only[if_pos (show (l.length:Int)=(m.length:Int)by omega)]
 refine .succ ?_
 simp only[L48_1,Bool.false_eq_true,if_false]
 have loop:∀i:Nat,i≤l.length→Ev (fun n=>L48_2 n l m (i:Int)) (decide (l.drop i=m.drop i)):=by
  refine down _ ?_ (fun i hi ihd=>?_)
  ·refine .succ ?_
   simp only[L48_2,lenF,Int.lt_irrefl,if_false]
   rw[List.drop_length,e,List.drop_length,decide_eq_true rfl]
   exact .succ (by simp only[L48_3,Bool.false_eq_true,if_false];exact .ret)
  ·have hi':i<m.length:=by omega
   obtain⟨v,hx,hvm,hv⟩:=rowV h hi
   obtain⟨w,hy,hwm,hw⟩:=rowV hm hi'
   have d1:l.drop i=v.row::l.drop (i+1):=by
    rw[List.drop_eq_getElem_cons hi];congr 1
    rw[List.getElem?_eq_getElem hi]at hx;exact Option.some.inj hx
   have d2:m.drop i=w.row::m.drop (i+1):=by
    rw[List.drop_eq_getElem_cons hi'];congr 1
    rw[List.getElem?_eq_getElem hi']at hy;exact Option.some.inj hy
   refine .succ ?_
   simp only[L48_2,lenF,if_pos (ilt hi)]
   refine .succ ?_
   simp only[L48_3,if_true,getF_nat hx,getF_nat hy,ds25]
   refine Ev.bO1 (same_of v w hv hw (ih v.fs (size_fs hvm) w.fs hv.fs hw.fs)) ?_
   by_cases c:v=w
   ·simp only[decide_eq_true c,letB,Bool.not_true,Bool.false_eq_true,if_false,letF,wrap_succ hi h.1]
    have:decide (l.drop i=m.drop i)=decide (l.drop (i+1)=m.drop (i+1)):=by
     rw[d1,d2,c];exact decide_eq_decide.2 ⟨fun h=>(List.cons.inj h).2,fun h=>by rw[h]⟩
    rw[this]
    exact ihd
   ·simp only[decide_eq_false c,letB,Bool.not_false,if_true]
    rw[decide_eq_false (by rw[d1,d2];intro h;exact c (row_inj (List.cons.inj h).1))]
    exact .ret
 have:=loop 0 (Nat.zero_le _)
 simpa using this
open Classical in
theorem ev11 {v w:VV}(hv:VT v) (hw:VT w):Ev (fun n=>F34 n v.k v.i v.nm v.fs v.id v.pt w.k w.i w.nm w.fs w.id w.pt) (decide (v=w)):=
 same_of v w hv hw (sameL v.fs w.fs hv.fs hw.fs)
def leads (v:VV) (n:Int):Int:=if v.k=0 then 3 else if (v.k=4∨v.k=5)∧0≤n∧n<(v.fs.length:Int)then 0 else 6
theorem ev38 (v:VV) (n0:Int):Ev (fun n=>F94 n v.k v.i v.nm v.fs v.id v.pt n0) (leads v n0):=by
 unfold F94 leads
 by_cases c:v.k=0
 ·simp only[if_pos c];exact .succ (by simp only[L94_1,if_true];exact .ret)
 ·simp only[if_neg c]
  have t:Ev (fun n=>L94_2 n true) 6:=.succ (by simp only[L94_2,if_true];exact .ret)
  have f:Ev (fun n=>L94_2 n false) 0:=.succ (by simp only[L94_2,Bool.false_eq_true,if_false];exact .ret)
  refine .succ ?_
  simp only[L94_1,Bool.false_eq_true,if_false,lenF]
  by_cases c4:v.k=4
  ·by_cases cn:n0<0
   ·simp only[if_pos c4,if_pos cn];rw[if_neg (by omega)];exact t
   ·by_cases cl:(v.fs.length:Int)≤n0
    ·simp only[if_pos c4,if_neg cn,if_pos cl];rw[if_neg (by omega)];exact t
    ·simp only[if_pos c4,if_neg cn,if_neg cl];rw[if_pos (by omega)];exact f
  ·by_cases c5:v.k=5
   ·by_cases cn:n0<0
    ·simp only[if_neg c4,if_pos c5,if_pos cn];rw[if_neg (by omega)];exact t
    ·by_cases cl:(v.fs.length:Int)≤n0
     ·simp only[if_neg c4,if_pos c5,if_neg cn,if_pos cl];rw[if_neg (by omega)];exact t
     ·simp only[if_neg c4,if_pos c5,if_neg cn,if_neg cl];rw[if_pos (by omega)];exact f
   ·simp only[if_neg c4,if_neg c5];rw[if_neg (by omega)];exact t
theorem ev38x (v:VV) (n0:Int):Ev (fun n=>F94x1 n v.k v.i v.nm v.id n0 v.fs v.pt) (leads v n0,v.fs,v.pt):=by
 unfold F94x1 leads
 by_cases c:v.k=0
 ·simp only[if_pos c];exact .succ (by simp only[L94x1_1,if_true];exact .ret)
 ·simp only[if_neg c]
  have t:Ev (fun n=>L94x1_2 n v.fs v.pt true) (6,v.fs,v.pt):=.succ (by simp only[L94x1_2,if_true];exact .ret)
  have f:Ev (fun n=>L94x1_2 n v.fs v.pt false) (0,v.fs,v.pt):=.succ (by simp only[L94x1_2,Bool.false_eq_true,if_false];exact .ret)
  refine .succ ?_
  simp only[L94x1_1,Bool.false_eq_true,if_false,lenF]
  by_cases c4:v.k=4
  ·by_cases cn:n0<0
   ·simp only[if_pos c4,if_pos cn];rw[if_neg (by omega)];exact t
   ·by_cases cl:(v.fs.length:Int)≤n0
    ·simp only[if_pos c4,if_neg cn,if_pos cl];rw[if_neg (by omega)];exact t
    ·simp only[if_pos c4,if_neg cn,if_neg cl];rw[if_pos (by omega)];exact f
  ·by_cases c5:v.k=5
   ·by_cases cn:n0<0
    ·simp only[if_neg c4,if_pos c5,if_pos cn];rw[if_neg (by omega)];exact t
    ·by_cases cl:(v.fs.length:Int)≤n0
     ·simp only[if_neg c4,if_pos c5,if_neg cn,if_pos cl];rw[if_neg (by omega)];exact t
     ·simp only[if_neg c4,if_pos c5,if_neg cn,if_neg cl];rw[if_pos (by omega)];exact f
   ·simp only[if_neg c4,if_neg c5];rw[if_neg (by omega)];exact t
theorem leads_ok {v:VV}{n:Int}(h:leads v n=0):v.k≠0∧(v.k=4∨v.k=5)∧0≤n∧n.toNat<v.fs.length:=by
 unfold leads at h
 split at h
 ·omega
 ·split at h
  ·rename_i h1 h2;exact⟨h1,h2.1,h2.2.1,by omega⟩
  ·omega
def part (v:VV) (n:Int):VV:=un (v.fs[n.toNat]?.getD (.bool false))
def setp (v:VV) (n:Int) (w:VV):VV:={v with fs:=v.fs.set n.toNat w.row}
def getS:List Int→VV→VV×Int
 | [],v=>if v.k=0 then (zeroV,3)else (v,0)
 | n::p,v=>if leads v n=0 then getS p (part v n)else (zeroV,leads v n)
def setS:List Int→VV→VV→VV×Int
 | [],v,x=>(x,0)
 | n::p,v,x=>if leads v n=0 then (setp v n (setS p (part v n) x).1,(setS p (part v n) x).2)else (v,leads v n)
theorem part_ok {v:VV}(hv:VS v) {n:Int}(h:leads v n=0):v.fs[n.toNat]?=some (part v n).row∧(part v n).row∈v.fs∧VS (part v n):=by
 obtain⟨_,_,_,hl⟩:=leads_ok h
 obtain⟨w,h1,h2,h3⟩:=rowV hv.t.fs hl
 have:part v n=w:=by unfold part;rw[h1];rfl
 rw[this]
 exact⟨h1,h2,h3,hv.f.pt h2,hv.f.fs h2⟩
theorem VS.setp {v:VV}(hv:VS v) {w:VV}(hw:VS w) (n:Int):VS (setp v n w):=by
 refine⟨⟨hv.t.k,hv.t.i,hv.t.nm,hv.t.fs.set _ hw.t.rowS,hv.t.id,hv.t.pt⟩,hv.p,?_⟩
 refine .mk (by show (v.fs.set _ _).length≤1000;rw[List.length_set];exact hv.f.len) (fun u hu=>?_) (fun u hu=>?_)
 ·rcases List.mem_or_eq_of_mem_set hu with hu | hu
  ·exact hv.f.pt hu
  ·rw[row_inj hu];exact hw.p
 ·rcases List.mem_or_eq_of_mem_set hu with hu | hu
  ·exact hv.f.fs hu
  ·rw[row_inj hu];exact hw.f
theorem setS_VS {x:VV}(hx:VS x):∀(p:List Int) {v:VV},VS v→VS (setS p v x).1
 | [],v,hv=>hx
 | n::p,v,hv=>by
  unfold setS
  by_cases c:leads v n=0
  ·rw[if_pos c]
   exact hv.setp (setS_VS hx p (part_ok hv c).2.2) n
  ·rw[if_neg c];exact hv
theorem getS_VS:∀(p:List Int) {v:VV},VS v→(getS p v).2=0→VS (getS p v).1
 | [],v,hv,h=>by
  unfold getS at h ⊢
  by_cases c:v.k=0
  ·rw[if_pos c]at h;exact absurd h (by show ¬(3:Int)=0;decide)
  ·rw[if_neg c];exact hv
 | n::p,v,hv,h=>by
  unfold getS at h ⊢
  by_cases c:leads v n=0
  ·rw[if_pos c]at h ⊢;exact getS_VS p (part_ok hv c).2.2 h
  ·rw[if_neg c]at h;exact absurd h c
theorem zeroV_VT:VT zeroV:=⟨rfl,rfl,by decide,.nil,rfl,.nil⟩
theorem getS_VT (p:List Int) {v:VV}(hv:VS v):VT (getS p v).1:=by
 by_cases h:(getS p v).2=0
 ·exact (getS_VS p hv h).t
 ·have:(getS p v).1=zeroV:=by
   clear hv
   induction p generalizing v with
   | nil=>
    unfold getS at h ⊢
    split
    ·rfl
    ·rename_i c;rw[if_neg c]at h;exact absurd rfl h
   | cons n p ih=>
    unfold getS at h ⊢
    by_cases c:leads v n=0
    ·rw[if_pos c]at h ⊢;exact ih h
    ·rw[if_neg c]
  rw[this];exact zeroV_VT
theorem ev20 (q:List Int) (hq:q.length≤maxLen) {v:VV}(hv:VS v):Ev (fun n=>F30 n v.k v.i v.nm v.fs v.id v.pt (pD q)) ((getS q v).1.k,(getS q v).1.i,(getS q v).1.nm,(getS q v).1.id,(getS q v).2,(getS q v).1.fs,(getS q v).1.pt):=by
 have loop:∀i:Nat,i≤q.length→∀v,VS v→Ev (fun n=>L30_1 n (pD q) (q.length:Int) (i:Int) v.k v.i v.nm v.fs v.id v.pt) ((getS (q.drop i) v).1.k,(getS (q.drop i) v).1.i,(getS (q.drop i) v).1.nm,(getS (q.drop i) v).1.id,(getS (q.drop i) v).2,(getS (q.drop i) v).1.fs,(getS (q.drop i) v).1.pt):=by
  refine down _ (fun v hv=>?_) (fun i hi ih v hv=>?_)
  ·rw[List.drop_length]
   refine .succ ?_
   simp only[L30_1,Int.lt_irrefl,if_false]
   refine .succ ?_
   simp only[L30_2,Bool.false_eq_true,if_false]
   unfold getS
   by_cases c:v.k=0
   ·simp only[if_pos c]
    exact .succ (by simp only[L30_4,if_true];exact .ret)
   ·simp only[if_neg c]
    exact .succ (by simp only[L30_4,Bool.false_eq_true,if_false];exact Ev.bO6 (ev10 hv) .ret)
  ·have h1:(pD q)[i]?=some (.int .i64 q[i]):=by simp[hi]
   rw[List.drop_eq_getElem_cons hi]
   refine .succ ?_
   simp only[L30_1,if_pos (ilt hi)]
   refine .succ ?_
   simp only[L30_2,if_true,getF_nat h1,ds_i64]
   refine Ev.bO1 (ev38 v q[i]) ?_
   unfold getS
   by_cases c:leads v q[i]=0
   ·obtain⟨e1,_,e3⟩:=part_ok hv c
    have hg:∀k:D→Option (Int×Int×ByteArray×Int×Int×List D×List D),getF v.fs q[i] k=k (part v q[i]).row:=fun k=>getF_some (leads_ok c).2.2.1 e1
    simp only[if_pos c]
    refine .succ ?_
    simp only[L30_3,Bool.false_eq_true,if_false,hg,ds25,letF,wrap_succ hi hq]
    exact ih _ e3
   ·simp only[if_neg c]
    exact .succ (by simp only[L30_3,if_true];exact .ret)
 unfold F30
 simp only[lenF,List.length_map]
 exact loop 0 (Nat.zero_le _) v hv
theorem ev37 {x:VV}(hx:VS x):∀(q:List Int),q.length≤maxLen→(∀z∈q,(Lit.int .i64 z).wf=true)→∀{v:VV},VS v→
  Ev (fun n=>F97x1 n v.k v.i v.nm v.id (pD q) v.fs v.pt x.k x.i x.nm x.fs x.id x.pt (0:Int))
   ((setS q v x).1.k,(setS q v x).1.i,(setS q v x).1.nm,(setS q v x).1.id,x.k,x.i,x.nm,x.fs,x.id,x.pt,(setS q v x).2,(setS q v x).1.fs,(setS q v x).1.pt)
 | [],_,_,v,hv=>by
  refine .succ ?_
  simp only[F97x1,lenF,List.map_nil,List.length_nil,show ((0:Nat):Int)=0 from rfl,if_true]
  refine .succ ?_
  simp only[L97x1_1,if_true]
  exact Ev.bO6 (ev10 hx) .ret
 | z::q,hq,hw,v,hv=>by
  have hl:q.length≤maxLen:=by simp only[List.length_cons]at hq;omega
  have h0:(pD (z::q))[0]?=some (.int .i64 z):=rfl
  have h0':∀{γ:Type} (k:D→Option γ),getF (pD (z::q)) 0 k=k (.int .i64 z):=fun k=>getF_nat (i:=0) h0
  refine .succ ?_
  simp only[F97x1,lenF,List.length_map,if_neg (show ¬((z::q).length:Int)=0 by simp only[List.length_cons];omega)]
  refine .succ ?_
  simp only[L97x1_1,Bool.false_eq_true,if_false,h0',ds_i64]
  refine Ev.bO3 (ev38x v z) ?_
  unfold setS
  by_cases c:leads v z=0
  ·obtain⟨e1,_,e3⟩:=part_ok hv c
   obtain⟨_,_,c1,c2⟩:=leads_ok c
   simp only[if_pos c,c]
   refine .succ ?_
   have hf:∀{γ:Type} (k:List D→Option γ),fromF (pD (z::q)) (1:Int) k=k (pD q):=by
    intro γ k
    unfold fromF
    rw[if_pos ⟨by omega,by simp only[List.length_map,List.length_cons];omega⟩]
    rfl
   simp only[L97x1_2,if_true,need_pos (show 0≤z∧z.toNat<v.fs.length from⟨c1,c2⟩),getN_some e1,ds25,hf]
   refine Ev.bO13 (ev37 hx q hl (fun y hy=>hw y (List.mem_cons_of_mem _ hy)) e3) ?_
   simp only[setF]
   exact .succ (by simp only[L97x1_3];exact .ret)
  ·simp only[if_neg c]
   refine .succ ?_
   simp only[L97x1_2,Bool.false_eq_true,if_false]
   exact .succ (by simp only[L97x1_3];exact .ret)
def setR (q:List Int) (v x:VV):VV×Int:=if (setS q v x).2=0 then ((setS q v x).1,0)else (zeroV,(setS q v x).2)
theorem ev19 {v x:VV}(hv:VS v) (hx:VS x) {q:List Int}(hq:q.length≤maxLen) (hw:∀z∈q,(Lit.int .i64 z).wf=true):
  Ev (fun n=>F32x1 n v.k v.i v.nm v.fs v.id v.pt (pD q) x.k x.i x.nm x.fs x.id x.pt) ((setR q v x).1.k,(setR q v x).1.i,(setR q v x).1.nm,(setR q v x).1.fs,(setR q v x).1.id,(setR q v x).1.pt,(setR q v x).2):=by
 unfold F32x1 setR
 refine Ev.bO6 (ev10 hv) (Ev.bO13 (ev37 hx q hq hw hv) ?_)
 by_cases c:(setS q v x).2=0
 ·simp only[if_pos c]
  exact .succ (by simp only[L32x1_1,Bool.false_eq_true,if_false];exact .ret)
 ·simp only[if_neg c]
  exact .succ (by simp only[L32x1_1,if_true];exact .ret)
theorem ev37o {x:VV}(hx:VS x):∀(q:List Int),q.length≤maxLen→(∀z∈q,(Lit.int .i64 z).wf=true)→∀{v:VV},VS v→
  Ev (fun n=>F97 n v.k v.i v.nm v.id (pD q) v.fs v.pt x.k x.i x.nm x.id x.fs x.pt (0:Int))
   ((setS q v x).1.k,(setS q v x).1.i,(setS q v x).1.nm,(setS q v x).1.id,x.k,x.i,x.nm,x.id,x.fs,x.pt,(setS q v x).2,(setS q v x).1.fs,(setS q v x).1.pt)
 | [],_,_,v,hv=>by
  refine .succ ?_
  simp only[F97,lenF,List.map_nil,List.length_nil,show ((0:Nat):Int)=0 from rfl,if_true]
  refine .succ ?_
  simp only[L97_1,if_true]
  exact Ev.bO6 (ev10 hx) .ret
 | z::q,hq,hw,v,hv=>by
  have hl:q.length≤maxLen:=by simp only[List.length_cons]at hq;omega
  have h0:(pD (z::q))[0]?=some (.int .i64 z):=rfl
  have h0':∀{γ:Type} (k:D→Option γ),getF (pD (z::q)) 0 k=k (.int .i64 z):=fun k=>getF_nat (i:=0) h0
  refine .succ ?_
  simp only[F97,lenF,List.length_map,if_neg (show ¬((z::q).length:Int)=0 by simp only[List.length_cons];omega)]
  refine .succ ?_
  simp only[L97_1,Bool.false_eq_true,if_false,h0',ds_i64]
  refine Ev.bO3 (ev38x v z) ?_
  unfold setS
  by_cases c:leads v z=0
  ·obtain⟨e1,_,e3⟩:=part_ok hv c
   obtain⟨_,_,c1,c2⟩:=leads_ok c
   simp only[if_pos c,c]
   refine .succ ?_
   have hf:∀{γ:Type} (k:List D→Option γ),fromF (pD (z::q)) (1:Int) k=k (pD q):=by
    intro γ k
    unfold fromF
    rw[if_pos ⟨by omega,by simp only[List.length_map,List.length_cons];omega⟩]
    rfl
   simp only[L97_2,if_true,need_pos (show 0≤z∧z.toNat<v.fs.length from⟨c1,c2⟩),getN_some e1,ds25,hf]
   refine Ev.bO13 (ev37o hx q hl (fun y hy=>hw y (List.mem_cons_of_mem _ hy)) e3) ?_
   simp only[setF]
   exact .succ (by simp only[L97_3];exact .ret)
  ·simp only[if_neg c]
   refine .succ ?_
   simp only[L97_2,Bool.false_eq_true,if_false]
   exact .succ (by simp only[L97_3];exact .ret)
theorem ev19o {v x:VV}(hv:VS v) (hx:VS x) {q:List Int}(hq:q.length≤maxLen) (hw:∀z∈q,(Lit.int .i64 z).wf=true):
  Ev (fun n=>F32 n v.k v.i v.nm v.fs v.id v.pt (pD q) x.k x.i x.nm x.id x.fs x.pt) ((setR q v x).1.k,(setR q v x).1.i,(setR q v x).1.nm,(setR q v x).1.fs,(setR q v x).1.id,(setR q v x).1.pt,(setR q v x).2,x.fs,x.pt):=by
 unfold F32 setR
 refine Ev.bO6 (ev10 hv) (Ev.bO13 (ev37o hx q hq hw hv) ?_)
 by_cases c:(setS q v x).2=0
 ·simp only[if_pos c]
  exact .succ (by simp only[L32_1,Bool.false_eq_true,if_false];exact .ret)
 ·simp only[if_neg c]
  exact .succ (by simp only[L32_1,if_true];exact .ret)
theorem set_of_get:∀(p:List Int) (v x:VV),(getS p v).2=0→(setS p v x).2=0
 | [],v,x,_=>by rw[setS]
 | n::p,v,x,h=>by
  rw[getS]at h
  rw[setS]
  by_cases c:leads v n=0
  ·rw[if_pos c]at h ⊢;exact set_of_get p _ x h
  ·rw[if_neg c]at h;exact absurd h c
end Go.Proofs.Ytiiojajgajnhpaa
set_option maxRecDepth 100000
set_option maxHeartbeats 40000000
set_option linter.unusedVariables false
noncomputable section
namespace Go.Proofs.Ytiiojajgajnhpaa
open Go Go.AM
def F107 (n:Nat) (z1:Int) (l2:List D):Option (Int×List D):=
 some (z1,l2)
theorem T107 (n:Nat):∀⦃z1:Int⦄ ⦃l2:List D⦄ ⦃r1:Int⦄ ⦃r2:List D⦄,F107 n z1 l2=some (r1,r2)→
    Trip Try.prog inv 107 [.c (.ptr (.ext 0) 0)] [.cells [.ow (.ext 1),.d (.int .i64 z1)],.tree (.fmap true) true 8 l2 none] (.v (.d (.bool false))) [.cells [.ow (.ext 1),.d (.int .i64 r1)],.tree (.fmap true) true 8 r2 none] []:=by
 intro z1 l2 r1 r2 h
 unfold F107 at h
 refine Trip.of tab_ok tab_one fol Try.func107 rfl (by kernel_rfl) rfl rfl rfl (fun M hM hI=>?_)
 try cbv
 refine seq_go ?_
 try cbv
 refine seq_go ?_
 try cbv
 obtain⟨rfl,rfl⟩:=inj2 h
 refine fin_go ?_
 try cbv
 exact⟨[],rfl,rfl,⟨rfl,⟨rfl,trivial⟩⟩,trivial,trivial⟩
def F59 (n:Nat) (z1:Int) (l2:List D):Option (Int×Int×List D):=
 bO2 (F107 n z1 l2) fun z3 l4=>lenF l4 fun z5=>letF (IntKind.wrap .i64 (1000 - z5)) fun z6=>some (z6,z3,l4)
theorem T59 (n:Nat):∀⦃z1:Int⦄ ⦃l2:List D⦄ ⦃r1:Int⦄ ⦃r2:Int⦄ ⦃r3:List D⦄,F59 n z1 l2=some (r1,r2,r3)→
    Trip Try.prog inv 59 [.c (.ptr (.ext 0) 0)] [.cells [.ow (.ext 1),.d (.int .i64 z1)],.tree (.fmap true) true 8 l2 none] (.v (.d (.int .i64 r1))) [.cells [.ow (.ext 1),.d (.int .i64 r2)],.tree (.fmap true) true 8 r3 none] []:=by
 intro z1 l2 r1 r2 r3 h
 unfold F59 at h
 refine Trip.of tab_ok tab_one fol Try.func59 rfl (by kernel_rfl) rfl rfl rfl (fun M hM hI=>?_)
 try cbv
 refine seq_go ?_
 try cbv
 refine seq_go ?_
 try cbv
 refine seq_go ?_
 try cbv
 replace h:=bO2_inv h
 obtain⟨z3,l4,hr,h⟩:=h
 refine call_go rfl rfl ?_
 try cbv
 refine call_with hM hI [.ext 0,.ext 1] (T107 _ hr) rfl (by simp) ⟨rfl,⟨rfl,trivial⟩⟩ ⟨trivial,⟨trivial,trivial⟩⟩ (by simp) ?_
 clear hr
 try cbv
 refine seq_go ?_
 try cbv
 replace h:=lenF_inv M h
 obtain⟨z5,hz,h⟩:=h
 refine⟨true,?_⟩
 try cbv
 refine⟨z5,hz,?_⟩
 clear hz
 try cbv
 replace h:=letF_inv h
 obtain⟨z6,hz,h⟩:=h
 refine⟨z6,hz,?_⟩
 clear hz
 try cbv
 obtain⟨rfl,rfl,rfl⟩:=inj3 h
 refine fin_go ?_
 try cbv
 exact⟨[],rfl,rfl,⟨rfl,⟨rfl,trivial⟩⟩,trivial,trivial⟩
def L51_1:Nat→Int→Int→ByteArray→(List D)→Int→(List D)→Bool→Int→(List D)→Option (Int×Int×Int×List D)
 | 0,_,_,_,_,_,_,_,_,_=>none
 | n+1,z1,z2,s3,l4,z5,l6,b14,z15,l16=>
  (if b14=true then some ((0:Int),(4:Int),z15,l16)else lenF l16 fun z17=>bO6 (F95z n z1 z2 s3 l4 z5 l6) fun z18 z19 s20 l21 z22 l23=>putF (.int .i64 z17) [.int .u8 z18,.int .i64 z19,.str s20,.list true 6 l21,.int .i64 z22,.list false 1 l23,.bool false] l16 fun l24=>letF (IntKind.wrap .i64 (z15+1)) fun z25=>some (z17,(0:Int),z25,l24))
def F51 (n:Nat) (z1:Int) (z2:Int) (s3:ByteArray) (l4:List D) (z5:Int) (l6:List D) (z7:Int) (l8:List D):Option (Int×Int×Int×List D):=
 bO2 (F107 n z7 l8) fun z9 l10=>bO3 (F59 n z9 l10) fun z11 z12 l13=>(if z11=(0:Int)then L51_1 n z1 z2 s3 l4 z5 l6 true z12 l13 else L51_1 n z1 z2 s3 l4 z5 l6 false z12 l13)
theorem T51 (n:Nat):∀⦃z1:Int⦄ ⦃z2:Int⦄ ⦃s3:ByteArray⦄ ⦃l4:List D⦄ ⦃z5:Int⦄ ⦃l6:List D⦄ ⦃z7:Int⦄ ⦃l8:List D⦄ ⦃r1:Int⦄ ⦃r2:Int⦄ ⦃r3:Int⦄ ⦃r4:List D⦄,F51 n z1 z2 s3 l4 z5 l6 z7 l8=some (r1,r2,r3,r4)→
    Trip Try.prog inv 51 [.c (.ptr (.ext 0) 0),.d (.agg [.int .u8 z1,.int .i64 z2,.str s3,.list true 6 l4,.int .i64 z5,.list false 1 l6])] [.cells [.ow (.ext 1),.d (.int .i64 z7)],.tree (.fmap true) true 8 l8 none] (.t [.d (.int .i64 r1),.d (.int .i64 r2)]) [.cells [.ow (.ext 1),.d (.int .i64 r3)],.tree (.fmap true) true 8 r4 none] []:=by
 intro z1 z2 s3 l4 z5 l6 z7 l8 r1 r2 r3 r4 h
 unfold F51 at h
 refine Trip.of tab_ok tab_one fol Try.func51 rfl (by kernel_rfl) rfl rfl rfl (fun M hM hI=>?_)
 try cbv
 refine seq_go ?_
 try cbv
 refine seq_go ?_
 try cbv
 refine seq_go ?_
 try cbv
 replace h:=bO2_inv h
 obtain⟨z9,l10,hr,h⟩:=h
 refine call_go rfl rfl ?_
 try cbv
 refine call_with hM hI [.ext 0,.ext 1] (T107 _ hr) rfl (by simp) ⟨rfl,⟨rfl,trivial⟩⟩ ⟨trivial,⟨trivial,trivial⟩⟩ (by simp) ?_
 clear hr
 try cbv
 refine seq_join (T:=Nat×Bool×Int×List D) (fun t=>⟨[(0,.v (.c (.ptr (.ext 0) 0))),(3,.v (.c (.ptr (.loc 0) 0))),(4,.v (.d (.int .i64 0))),(5,.v (.d (.int .i64 0))),(10,.v (.d (.bool t.2.1)))],[(.ext 0,.cells [.ow (.ext 1),.d (.int .i64 t.2.2.1)]),(.ext 1,.tree (.fmap true) true 8 t.2.2.2 none),(.loc 0,.cells [.d (.int .u8 z1),.d (.int .i64 z2),.d (.str s3),.d (.list true 6 l4),.d (.int .i64 z5),.d (.list false 1 l6)])],320⟩) (fun t=>t.1≤n∧L51_1 t.1 z1 z2 s3 l4 z5 l6 t.2.1 t.2.2.1 t.2.2.2=some (r1,r2,r3,r4)) ?_ ?_
 ·try cbv
  replace h:=bO3_inv h
  obtain⟨z11,z12,l13,hr,h⟩:=h
  refine call_go rfl rfl ?_
  try cbv
  refine call_with hM hI [.ext 0,.ext 1] (T59 _ hr) rfl (by simp) ⟨rfl,⟨rfl,trivial⟩⟩ ⟨trivial,⟨trivial,trivial⟩⟩ (by simp) ?_
  clear hr
  try cbv
  refine splitI (fun e=>?_) (fun e=>?_)
  ·replace h:=ite_t e h
   clear e
   try cbv
   exact join_next (n,(true,z12,l13)) [0,3,4,5,10] [.ext 0,.ext 1,.loc 0] 320 ⟨by omega,h⟩ (by cbv)
  replace h:=ite_f e h
  clear e
  try cbv
  exact join_next (n,(false,z12,l13)) [0,3,4,5,10] [.ext 0,.ext 1,.loc 0] 320 ⟨by omega,h⟩ (by cbv)
 clear h
 rintro⟨m1,b14,z15,l16⟩ ⟨hm1,h⟩
 replace hm1:m1≤n:=hm1
 obtain _ | m1:=m1
 ·replace h:L51_1 0 z1 z2 s3 l4 z5 l6 b14 z15 l16=some (r1,r2,r3,r4):=h
  rw[L51_1]at h
  cases h
 replace h:L51_1 (m1+1) z1 z2 s3 l4 z5 l6 b14 z15 l16=some (r1,r2,r3,r4):=h
 rw[L51_1]at h
 try cbv
 cases b14
 rotate_left
 ·replace h:=ite_t rfl h
  try cbv
  refine seq_go ?_
  try cbv
  obtain⟨rfl,rfl,rfl,rfl⟩:=inj4 h
  refine fin_go ?_
  try cbv
  exact⟨[],rfl,rfl,⟨rfl,⟨rfl,trivial⟩⟩,trivial,trivial⟩
 replace h:=ite_f Bool.false_ne_true h
 try cbv
 refine seq_go ?_
 try cbv
 replace h:=lenF_inv M h
 obtain⟨z17,hz,h⟩:=h
 refine⟨true,?_⟩
 try cbv
 refine⟨z17,hz,?_⟩
 clear hz
 try cbv
 refine seq_go ?_
 try cbv
 replace h:=bO6_inv h
 obtain⟨z18,z19,s20,l21,z22,l23,hr,h⟩:=h
 first | refine .inr (.inl ⟨[],?_⟩) | refine .inl ⟨[],?_⟩
 try cbv
 refine call_pure hM hI (T95z _ hr) rfl ?_
 clear hr
 try cbv
 replace h:=putF_inv h
 obtain⟨l24,hz,h⟩:=h
 refine⟨l24,(M.lock_iff _).2 hz,?_⟩
 clear hz
 try cbv
 refine drawn ?_ ?_
 ·show _=true
  kernel_rfl
 try cbv
 refine seq_go ?_
 try cbv
 replace h:=letF_inv h
 obtain⟨z25,hz,h⟩:=h
 refine⟨z25,hz,?_⟩
 clear hz
 try cbv
 refine seq_go ?_
 try cbv
 obtain⟨rfl,rfl,rfl,rfl⟩:=inj4 h
 refine fin_go ?_
 try cbv
 exact⟨[],rfl,rfl,⟨rfl,⟨rfl,trivial⟩⟩,trivial,trivial⟩
def F108 (n:Nat) (z1:Int) (z2:Int) (l3:List D):Option (Int×Int×ByteArray×List D×Int×List D×Int×Int×List D):=
 bO2 (F107 n z2 l3) fun z4 l5=>(findF true (.int .i64 z1) l5 (fun x6=>ds_t173 x6 fun z7 z8 s9 l10 z11 l12 b13=>(if b13=true then some ((0:Int),(0:Int),ByteArray.empty,([]:List D),(0:Int),([]:List D),(1:Int),z4,l5)else some (z7,z8,s9,l10,z11,l12,(0:Int),z4,l5))) (some ((0:Int),(0:Int),ByteArray.empty,([]:List D),(0:Int),([]:List D),(6:Int),z4,l5)))
theorem T108 (n:Nat):∀⦃z1:Int⦄ ⦃z2:Int⦄ ⦃l3:List D⦄ ⦃r1:Int⦄ ⦃r2:Int⦄ ⦃r3:ByteArray⦄ ⦃r4:List D⦄ ⦃r5:Int⦄ ⦃r6:List D⦄ ⦃r7:Int⦄ ⦃r8:Int⦄ ⦃r9:List D⦄,F108 n z1 z2 l3=some (r1,r2,r3,r4,r5,r6,r7,r8,r9)→
    Trip Try.prog inv 108 [.c (.ptr (.ext 0) 0),.d (.int .i64 z1)] [.cells [.ow (.ext 1),.d (.int .i64 z2)],.tree (.fmap true) true 8 l3 none] (.t [.d (.agg [.int .u8 r1,.int .i64 r2,.str r3,.list true 6 r4,.int .i64 r5,.list false 1 r6]),.d (.int .u8 r7)]) [.cells [.ow (.ext 1),.d (.int .i64 r8)],.tree (.fmap true) true 8 r9 none] []:=by
 intro z1 z2 l3 r1 r2 r3 r4 r5 r6 r7 r8 r9 h
 unfold F108 at h
 refine Trip.of tab_ok tab_one fol Try.func108 rfl (by kernel_rfl) rfl rfl rfl (fun M hM hI=>?_)
 try cbv
 refine seq_go ?_
 try cbv
 refine seq_go ?_
 try cbv
 refine seq_go ?_
 try cbv
 replace h:=bO2_inv h
 obtain⟨z4,l5,hr,h⟩:=h
 refine call_go rfl rfl ?_
 try cbv
 refine call_with hM hI [.ext 0,.ext 1] (T107 _ hr) rfl (by simp) ⟨rfl,⟨rfl,trivial⟩⟩ ⟨trivial,⟨trivial,trivial⟩⟩ (by simp) ?_
 clear hr
 try cbv
 refine seq_go ?_
 try cbv
 replace h:=findF_inv h
 rcases h with⟨x6,hz,h⟩ | ⟨hz,h⟩
 rotate_left
 ·refine⟨none,(M.lock_iff _).2 hz,?_⟩
  clear hz
  try cbv
  refine seq_go ?_
  try cbv
  refine seq_go ?_
  try cbv
  refine⟨true,rfl,?_⟩
  try cbv
  refine seq_go ?_
  try cbv
  obtain⟨rfl,rfl,rfl,rfl,rfl,rfl,rfl,rfl,rfl⟩:=inj9 h
  refine fin_go ?_
  try cbv
  exact⟨[],rfl,rfl,⟨rfl,⟨rfl,trivial⟩⟩,trivial,trivial⟩
 replace h:=ds_t173_inv h
 obtain⟨z7,z8,s9,l10,z11,l12,b13,rfl,h⟩:=h
 refine⟨some _,(M.lock_iff _).2 hz,?_⟩
 clear hz
 try cbv
 refine seq_go ?_
 try cbv
 refine seq_go ?_
 try cbv
 refine⟨false,rfl,?_⟩
 try cbv
 refine seq_go ?_
 try cbv
 cases b13
 ·replace h:=ite_f Bool.false_ne_true h
  try cbv
  refine seq_go ?_
  try cbv
  obtain⟨rfl,rfl,rfl,rfl,rfl,rfl,rfl,rfl,rfl⟩:=inj9 h
  refine fin_go ?_
  try cbv
  exact⟨[],rfl,rfl,⟨rfl,⟨rfl,trivial⟩⟩,trivial,trivial⟩
 replace h:=ite_t rfl h
 try cbv
 refine seq_go ?_
 try cbv
 obtain⟨rfl,rfl,rfl,rfl,rfl,rfl,rfl,rfl,rfl⟩:=inj9 h
 refine fin_go ?_
 try cbv
 exact⟨[],rfl,rfl,⟨rfl,⟨rfl,trivial⟩⟩,trivial,trivial⟩
def L52_1:Nat→(List D)→Int→Int→ByteArray→(List D)→Int→(List D)→Int→Int→(List D)→Bool→Option (Int×Int×ByteArray×Int×Int×Int×List D×List D×List D)
 | 0,_,_,_,_,_,_,_,_,_,_,_=>none
 | n+1,l2,z5,z6,s7,l8,z9,l10,z11,z12,l13,b14=>
  (if b14=true then some ((0:Int),(0:Int),ByteArray.empty,(0:Int),z11,z12,l13,([]:List D),([]:List D))else bO7 (F30 n z5 z6 s7 l8 z9 l10 l2) fun z15 z16 s17 z18 z19 l20 l21=>some (z15,z16,s17,z18,z19,z12,l13,l20,l21))
def F52 (n:Nat) (z1:Int) (l2:List D) (z3:Int) (l4:List D):Option (Int×Int×ByteArray×Int×Int×Int×List D×List D×List D):=
 bO9 (F108 n z1 z3 l4) fun z5 z6 s7 l8 z9 l10 z11 z12 l13=>(if z11=(0:Int)then L52_1 n l2 z5 z6 s7 l8 z9 l10 z11 z12 l13 false else L52_1 n l2 z5 z6 s7 l8 z9 l10 z11 z12 l13 true)
theorem T52 (n:Nat):∀⦃z1:Int⦄ ⦃l2:List D⦄ ⦃z3:Int⦄ ⦃l4:List D⦄ ⦃r1:Int⦄ ⦃r2:Int⦄ ⦃r3:ByteArray⦄ ⦃r4:Int⦄ ⦃r5:Int⦄ ⦃r6:Int⦄ ⦃r7:List D⦄ ⦃r8:List D⦄ ⦃r9:List D⦄,F52 n z1 l2 z3 l4=some (r1,r2,r3,r4,r5,r6,r7,r8,r9)→
    Trip Try.prog inv 52 [.c (.ptr (.ext 0) 0),.d (.int .i64 z1),.d (.list false 1 l2)] [.cells [.ow (.ext 1),.d (.int .i64 z3)],.tree (.fmap true) true 8 l4 none] (.t [.agg [.d (.int .u8 r1),.d (.int .i64 r2),.d (.str r3),.ow (.loc 0),.d (.int .i64 r4),.ow (.loc 1)],.d (.int .u8 r5)]) [.cells [.ow (.ext 1),.d (.int .i64 r6)],.tree (.fmap true) true 8 r7 none] [.tree .row true 6 r8 none,.tree .row false 1 r9 none]:=by
 intro z1 l2 z3 l4 r1 r2 r3 r4 r5 r6 r7 r8 r9 h
 unfold F52 at h
 refine Trip.of tab_ok tab_one fol Try.func52 rfl (by kernel_rfl) rfl rfl rfl (fun M hM hI=>?_)
 try cbv
 refine seq_go ?_
 try cbv
 refine seq_go ?_
 try cbv
 replace h:=bO9_inv h
 obtain⟨z5,z6,s7,l8,z9,l10,z11,z12,l13,hr,h⟩:=h
 refine call_go rfl rfl ?_
 try cbv
 refine call_with hM hI [.ext 0,.ext 1] (T108 _ hr) rfl (by simp) ⟨rfl,⟨rfl,trivial⟩⟩ ⟨trivial,⟨trivial,trivial⟩⟩ (by simp) ?_
 clear hr
 try cbv
 refine seq_go ?_
 try cbv
 refine seq_join (T:=Nat×Bool) (fun t=>⟨[(2,.v (.d (.list false 1 l2))),(6,.v (.c (.ptr (.loc 0) 0))),(7,.v (.d (.int .u8 0))),(8,.v (.c (.ptr (.loc 256) 0))),(9,.v (.d (.int .u8 z11))),(17,.v (.d (.bool t.2)))],[(.ext 0,.cells [.ow (.ext 1),.d (.int .i64 z12)]),(.ext 1,.tree (.fmap true) true 8 l13 none),(.loc 0,.cells [.d (.int .u8 0),.d (.int .i64 0),.d (.str ByteArray.empty),.nils true 6,.d (.int .i64 0),.nils false 1]),(.loc 256,.cells [.d (.int .u8 z5),.d (.int .i64 z6),.d (.str s7),.d (.list true 6 l8),.d (.int .i64 z9),.d (.list false 1 l10)])],416⟩) (fun t=>t.1≤n∧L52_1 t.1 l2 z5 z6 s7 l8 z9 l10 z11 z12 l13 t.2=some (r1,r2,r3,r4,r5,r6,r7,r8,r9)) ?_ ?_
 ·try cbv
  refine splitI (fun e=>?_) (fun e=>?_)
  ·replace h:=ite_t e h
   clear e
   try cbv
   exact join_next (n,false) [2,6,7,8,9,17] [.ext 0,.ext 1,.loc 0,.loc 256] 416 ⟨by omega,h⟩ (by cbv)
  replace h:=ite_f e h
  clear e
  try cbv
  exact join_next (n,true) [2,6,7,8,9,17] [.ext 0,.ext 1,.loc 0,.loc 256] 416 ⟨by omega,h⟩ (by cbv)
 clear h
 rintro⟨m1,b14⟩ ⟨hm1,h⟩
 replace hm1:m1≤n:=hm1
 obtain _ | m1:=m1
 ·replace h:L52_1 0 l2 z5 z6 s7 l8 z9 l10 z11 z12 l13 b14=some (r1,r2,r3,r4,r5,r6,r7,r8,r9):=h
  rw[L52_1]at h
  cases h
 replace h:L52_1 (m1+1) l2 z5 z6 s7 l8 z9 l10 z11 z12 l13 b14=some (r1,r2,r3,r4,r5,r6,r7,r8,r9):=h
 rw[L52_1]at h
 try cbv
 cases b14
 ·replace h:=ite_f Bool.false_ne_true h
  try cbv
  refine seq_go ?_
  try cbv
  replace h:=bO7_inv h
  obtain⟨z15,z16,s17,z18,z19,l20,l21,hr,h⟩:=h
  refine call_go rfl rfl ?_
  try cbv
  refine call_with hM hI [] (T30 _ hr) rfl (by simp) trivial trivial (by simp) ?_
  clear hr
  try cbv
  obtain⟨rfl,rfl,rfl,rfl,rfl,rfl,rfl,rfl,rfl⟩:=inj9 h
  refine fin_go ?_
  try cbv
  exact⟨[.loc 480,.loc 481],rfl,rfl,⟨rfl,⟨rfl,trivial⟩⟩,⟨rfl,⟨rfl,trivial⟩⟩,trivial⟩
 replace h:=ite_t rfl h
 try cbv
 refine seq_go ?_
 try cbv
 obtain⟨rfl,rfl,rfl,rfl,rfl,rfl,rfl,rfl,rfl⟩:=inj9 h
 refine⟨_,_,_,⟨rfl,rfl,rfl⟩,[.treeC (.loc 0) 3 true 6,.treeC (.loc 0) 5 false 1],?_⟩
 try cbv
 exact⟨[.loc 544,.loc 576],rfl,rfl,⟨rfl,⟨rfl,trivial⟩⟩,⟨rfl,⟨rfl,trivial⟩⟩,trivial⟩
def L54_2:Nat→Int→Int→Int→ByteArray→(List D)→Int→(List D)→Int→Int→(List D)→Bool→Option (Int×Int×ByteArray×Int×Int×Int×List D×List D×List D)
 | 0,_,_,_,_,_,_,_,_,_,_,_=>none
 | n+1,z1,z4,z5,s6,l7,z8,l9,z10,z11,l12,b14=>
  (if b14=true then some ((0:Int),(0:Int),ByteArray.empty,(0:Int),z10,z11,l12,([]:List D),([]:List D))else putF (.int .i64 z1) [.int .u8 0,.int .i64 0,.str ByteArray.empty,.list true 6 [],.int .i64 0,.list false 1 [],.bool true] l12 fun l15=>letF (IntKind.wrap .i64 (z11 - 1)) fun z16=>bO6 (F95 n z4 z5 s6 l7 z8 l9) fun z17 z18 s19 z20 l21 l22=>some (z17,z18,s19,z20,(0:Int),z16,l15,l21,l22))
def L54_1:Nat→Int→Int→Int→ByteArray→(List D)→Int→(List D)→Int→Int→(List D)→Bool→Option (Int×Int×ByteArray×Int×Int×Int×List D×List D×List D)
 | 0,_,_,_,_,_,_,_,_,_,_,_=>none
 | n+1,z1,z4,z5,s6,l7,z8,l9,z10,z11,l12,b13=>
  (if b13=true then some ((0:Int),(0:Int),ByteArray.empty,(0:Int),(2:Int),z11,l12,([]:List D),([]:List D))else (if z10=(6:Int)then L54_2 n z1 z4 z5 s6 l7 z8 l9 z10 z11 l12 true else L54_2 n z1 z4 z5 s6 l7 z8 l9 z10 z11 l12 false))
def F54 (n:Nat) (z1:Int) (z2:Int) (l3:List D):Option (Int×Int×ByteArray×Int×Int×Int×List D×List D×List D):=
 bO9 (F108 n z1 z2 l3) fun z4 z5 s6 l7 z8 l9 z10 z11 l12=>(if z10=(1:Int)then L54_1 n z1 z4 z5 s6 l7 z8 l9 z10 z11 l12 true else L54_1 n z1 z4 z5 s6 l7 z8 l9 z10 z11 l12 false)
theorem T54 (n:Nat):∀⦃z1:Int⦄ ⦃z2:Int⦄ ⦃l3:List D⦄ ⦃r1:Int⦄ ⦃r2:Int⦄ ⦃r3:ByteArray⦄ ⦃r4:Int⦄ ⦃r5:Int⦄ ⦃r6:Int⦄ ⦃r7:List D⦄ ⦃r8:List D⦄ ⦃r9:List D⦄,F54 n z1 z2 l3=some (r1,r2,r3,r4,r5,r6,r7,r8,r9)→
    Trip Try.prog inv 54 [.c (.ptr (.ext 0) 0),.d (.int .i64 z1)] [.cells [.ow (.ext 1),.d (.int .i64 z2)],.tree (.fmap true) true 8 l3 none] (.t [.agg [.d (.int .u8 r1),.d (.int .i64 r2),.d (.str r3),.ow (.loc 0),.d (.int .i64 r4),.ow (.loc 1)],.d (.int .u8 r5)]) [.cells [.ow (.ext 1),.d (.int .i64 r6)],.tree (.fmap true) true 8 r7 none] [.tree .row true 6 r8 none,.tree .row false 1 r9 none]:=by
 intro z1 z2 l3 r1 r2 r3 r4 r5 r6 r7 r8 r9 h
 unfold F54 at h
 refine Trip.of tab_ok tab_one fol Try.func54 rfl (by kernel_rfl) rfl rfl rfl (fun M hM hI=>?_)
 try cbv
 refine seq_go ?_
 try cbv
 refine seq_go ?_
 try cbv
 replace h:=bO9_inv h
 obtain⟨z4,z5,s6,l7,z8,l9,z10,z11,l12,hr,h⟩:=h
 refine call_go rfl rfl ?_
 try cbv
 refine call_with hM hI [.ext 0,.ext 1] (T108 _ hr) rfl (by simp) ⟨rfl,⟨rfl,trivial⟩⟩ ⟨trivial,⟨trivial,trivial⟩⟩ (by simp) ?_
 clear hr
 try cbv
 refine seq_go ?_
 try cbv
 refine seq_go ?_
 try cbv
 refine seq_join (T:=Nat×Bool) (fun t=>⟨[(0,.v (.c (.ptr (.ext 0) 0))),(1,.v (.d (.int .i64 z1))),(4,.v (.c (.ptr (.loc 0) 0))),(5,.v (.d (.int .u8 0))),(6,.v (.c (.ptr (.loc 256) 0))),(7,.v (.d (.int .u8 z10))),(14,.v (.d (.int .u8 z10))),(15,.v (.d (.bool t.2)))],[(.ext 0,.cells [.ow (.ext 1),.d (.int .i64 z11)]),(.ext 1,.tree (.fmap true) true 8 l12 none),(.loc 0,.cells [.d (.int .u8 0),.d (.int .i64 0),.d (.str ByteArray.empty),.nils true 6,.d (.int .i64 0),.nils false 1]),(.loc 256,.cells [.d (.int .u8 z4),.d (.int .i64 z5),.d (.str s6),.d (.list true 6 l7),.d (.int .i64 z8),.d (.list false 1 l9)])],448⟩) (fun t=>t.1≤n∧L54_1 t.1 z1 z4 z5 s6 l7 z8 l9 z10 z11 l12 t.2=some (r1,r2,r3,r4,r5,r6,r7,r8,r9)) ?_ ?_
 ·try cbv
  refine splitI (fun e=>?_) (fun e=>?_)
  ·replace h:=ite_t e h
   clear e
   try cbv
   exact join_next (n,true) [0,1,4,5,6,7,14,15] [.ext 0,.ext 1,.loc 0,.loc 256] 448 ⟨by omega,h⟩ (by cbv)
  replace h:=ite_f e h
  clear e
  try cbv
  exact join_next (n,false) [0,1,4,5,6,7,14,15] [.ext 0,.ext 1,.loc 0,.loc 256] 448 ⟨by omega,h⟩ (by cbv)
 clear h
 rintro⟨m1,b13⟩ ⟨hm1,h⟩
 replace hm1:m1≤n:=hm1
 obtain _ | m1:=m1
 ·replace h:L54_1 0 z1 z4 z5 s6 l7 z8 l9 z10 z11 l12 b13=some (r1,r2,r3,r4,r5,r6,r7,r8,r9):=h
  rw[L54_1]at h
  cases h
 replace h:L54_1 (m1+1) z1 z4 z5 s6 l7 z8 l9 z10 z11 l12 b13=some (r1,r2,r3,r4,r5,r6,r7,r8,r9):=h
 rw[L54_1]at h
 try cbv
 cases b13
 rotate_left
 ·replace h:=ite_t rfl h
  try cbv
  refine seq_go ?_
  try cbv
  obtain⟨rfl,rfl,rfl,rfl,rfl,rfl,rfl,rfl,rfl⟩:=inj9 h
  refine⟨_,_,_,⟨rfl,rfl,rfl⟩,[.treeC (.loc 0) 3 true 6,.treeC (.loc 0) 5 false 1],?_⟩
  try cbv
  exact⟨[.loc 544,.loc 576],rfl,rfl,⟨rfl,⟨rfl,trivial⟩⟩,⟨rfl,⟨rfl,trivial⟩⟩,trivial⟩
 replace h:=ite_f Bool.false_ne_true h
 try cbv
 refine seq_join (T:=Nat×Bool) (fun t=>⟨[(0,.v (.c (.ptr (.ext 0) 0))),(1,.v (.d (.int .i64 z1))),(4,.v (.c (.ptr (.loc 0) 0))),(5,.v (.d (.int .u8 0))),(6,.v (.c (.ptr (.loc 256) 0))),(7,.v (.d (.int .u8 z10))),(18,.v (.d (.bool t.2)))],[(.ext 0,.cells [.ow (.ext 1),.d (.int .i64 z11)]),(.ext 1,.tree (.fmap true) true 8 l12 none),(.loc 0,.cells [.d (.int .u8 0),.d (.int .i64 0),.d (.str ByteArray.empty),.nils true 6,.d (.int .i64 0),.nils false 1]),(.loc 256,.cells [.d (.int .u8 z4),.d (.int .i64 z5),.d (.str s6),.d (.list true 6 l7),.d (.int .i64 z8),.d (.list false 1 l9)])],512⟩) (fun t=>t.1≤m1∧L54_2 t.1 z1 z4 z5 s6 l7 z8 l9 z10 z11 l12 t.2=some (r1,r2,r3,r4,r5,r6,r7,r8,r9)) ?_ ?_
 ·try cbv
  refine splitI (fun e=>?_) (fun e=>?_)
  ·replace h:=ite_t e h
   clear e
   try cbv
   exact join_next (m1,true) [0,1,4,5,6,7,18] [.ext 0,.ext 1,.loc 0,.loc 256] 512 ⟨by omega,h⟩ (by cbv)
  replace h:=ite_f e h
  clear e
  try cbv
  exact join_next (m1,false) [0,1,4,5,6,7,18] [.ext 0,.ext 1,.loc 0,.loc 256] 512 ⟨by omega,h⟩ (by cbv)
 clear h
 rintro⟨m2,b14⟩ ⟨hm2,h⟩
 replace hm2:m2≤m1:=hm2
 obtain _ | m2:=m2
 ·replace h:L54_2 0 z1 z4 z5 s6 l7 z8 l9 z10 z11 l12 b14=some (r1,r2,r3,r4,r5,r6,r7,r8,r9):=h
  rw[L54_2]at h
  cases h
 replace h:L54_2 (m2+1) z1 z4 z5 s6 l7 z8 l9 z10 z11 l12 b14=some (r1,r2,r3,r4,r5,r6,r7,r8,r9):=h
 rw[L54_2]at h
 try cbv
 cases b14
 rotate_left
 ·replace h:=ite_t rfl h
  try cbv
  refine seq_go ?_
  try cbv
  obtain⟨rfl,rfl,rfl,rfl,rfl,rfl,rfl,rfl,rfl⟩:=inj9 h
  refine⟨_,_,_,⟨rfl,rfl,rfl⟩,[.treeC (.loc 0) 3 true 6,.treeC (.loc 0) 5 false 1],?_⟩
  try cbv
  exact⟨[.loc 640,.loc 672],rfl,rfl,⟨rfl,⟨rfl,trivial⟩⟩,⟨rfl,⟨rfl,trivial⟩⟩,trivial⟩
 replace h:=ite_f Bool.false_ne_true h
 try cbv
 refine seq_go ?_
 try cbv
 replace h:=putF_inv h
 obtain⟨l15,hz,h⟩:=h
 refine⟨l15,(M.lock_iff _).2 hz,?_⟩
 clear hz
 try cbv
 refine seq_go ?_
 try cbv
 replace h:=letF_inv h
 obtain⟨z16,hz,h⟩:=h
 refine⟨z16,hz,?_⟩
 clear hz
 try cbv
 refine seq_go ?_
 try cbv
 replace h:=bO6_inv h
 obtain⟨z17,z18,s19,z20,l21,l22,hr,h⟩:=h
 refine call_go rfl rfl ?_
 try cbv
 refine call_with hM hI [] (T95 _ hr) rfl (by simp) trivial trivial (by simp) ?_
 clear hr
 try cbv
 obtain⟨rfl,rfl,rfl,rfl,rfl,rfl,rfl,rfl,rfl⟩:=inj9 h
 refine fin_go ?_
 try cbv
 exact⟨[.loc 1024,.loc 1025],rfl,rfl,⟨rfl,⟨rfl,trivial⟩⟩,⟨rfl,⟨rfl,trivial⟩⟩,trivial⟩
def L111_2:Nat→(List D)→Int→Int→ByteArray→Int→Int→Int→ByteArray→(List D)→Int→(List D)→(List D)→(List D)→Bool→Option (Int×Int×ByteArray×List D×Int×List D×Int×List D×Int×Int×ByteArray×Int×List D×List D)
 | 0,_,_,_,_,_,_,_,_,_,_,_,_,_,_=>none
 | n+1,l7,z8,z9,s10,z11,z14,z15,s16,l17,z18,l19,l21,l22,b31=>
  (if b31=true then some ((0:Int),(0:Int),ByteArray.empty,([]:List D),(0:Int),([]:List D),(6:Int),l7,z8,z9,s10,z11,l21,l22)else some (z14,z15,s16,l17,z18,l19,(0:Int),l7,z8,z9,s10,z11,l21,l22))
def L111_1:Nat→Int→Int→ByteArray→(List D)→Int→(List D)→(List D)→Int→Int→ByteArray→Int→Int→Int→ByteArray→(List D)→Int→(List D)→Int→(List D)→(List D)→Bool→Option (Int×Int×ByteArray×List D×Int×List D×Int×List D×Int×Int×ByteArray×Int×List D×List D)
 | 0,_,_,_,_,_,_,_,_,_,_,_,_,_,_,_,_,_,_,_,_,_=>none
 | n+1,z1,z2,s3,l4,z5,l6,l7,z8,z9,s10,z11,z14,z15,s16,l17,z18,l19,z20,l21,l22,b23=>
  (if b23=true then some (z14,z15,s16,l17,z18,l19,z20,l7,z8,z9,s10,z11,l21,l22)else bO7 (F30 n z1 z2 s3 l4 z5 l6 l7) fun z24 z25 s26 z27 z28 l29 l30=>(if z28=(3:Int)then L111_2 n l7 z8 z9 s10 z11 z14 z15 s16 l17 z18 l19 l21 l22 false else L111_2 n l7 z8 z9 s10 z11 z14 z15 s16 l17 z18 l19 l21 l22 true))
def F111 (n:Nat) (z1:Int) (z2:Int) (s3:ByteArray) (l4:List D) (z5:Int) (l6:List D) (l7:List D) (z8:Int) (z9:Int) (s10:ByteArray) (z11:Int) (l12:List D) (l13:List D):Option (Int×Int×ByteArray×List D×Int×List D×Int×List D×Int×Int×ByteArray×Int×List D×List D):=
 bO9 (F32 n z1 z2 s3 l4 z5 l6 l7 z8 z9 s10 z11 l12 l13) fun z14 z15 s16 l17 z18 l19 z20 l21 l22=>(if z20=(0:Int)then L111_1 n z1 z2 s3 l4 z5 l6 l7 z8 z9 s10 z11 z14 z15 s16 l17 z18 l19 z20 l21 l22 false else L111_1 n z1 z2 s3 l4 z5 l6 l7 z8 z9 s10 z11 z14 z15 s16 l17 z18 l19 z20 l21 l22 true)
theorem T111 (n:Nat):∀⦃z1:Int⦄ ⦃z2:Int⦄ ⦃s3:ByteArray⦄ ⦃l4:List D⦄ ⦃z5:Int⦄ ⦃l6:List D⦄ ⦃l7:List D⦄ ⦃z8:Int⦄ ⦃z9:Int⦄ ⦃s10:ByteArray⦄ ⦃z11:Int⦄ ⦃l12:List D⦄ ⦃l13:List D⦄ ⦃r1:Int⦄ ⦃r2:Int⦄ ⦃r3:ByteArray⦄ ⦃r4:List D⦄ ⦃r5:Int⦄ ⦃r6:List D⦄ ⦃r7:Int⦄ ⦃r8:List D⦄ ⦃r9:Int⦄ ⦃r10:Int⦄ ⦃r11:ByteArray⦄ ⦃r12:Int⦄ ⦃r13:List D⦄ ⦃r14:List D⦄,F111 n z1 z2 s3 l4 z5 l6 l7 z8 z9 s10 z11 l12 l13=some (r1,r2,r3,r4,r5,r6,r7,r8,r9,r10,r11,r12,r13,r14)→
    Trip Try.prog inv 111 [.d (.agg [.int .u8 z1,.int .i64 z2,.str s3,.list true 6 l4,.int .i64 z5,.list false 1 l6]),.c (.ptr (.ext 0) 0),.c (.ptr (.ext 1) 0)] [.cells [.d (.list false 1 l7)],.cells [.d (.int .u8 z8),.d (.int .i64 z9),.d (.str s10),.ow (.ext 2),.d (.int .i64 z11),.ow (.ext 3)],.tree .row true 6 l12 none,.tree .row false 1 l13 none] (.t [.d (.agg [.int .u8 r1,.int .i64 r2,.str r3,.list true 6 r4,.int .i64 r5,.list false 1 r6]),.d (.int .u8 r7)]) [.cells [.d (.list false 1 r8)],.cells [.d (.int .u8 r9),.d (.int .i64 r10),.d (.str r11),.ow (.ext 2),.d (.int .i64 r12),.ow (.ext 3)],.tree .row true 6 r13 none,.tree .row false 1 r14 none] []:=by
 intro z1 z2 s3 l4 z5 l6 l7 z8 z9 s10 z11 l12 l13 r1 r2 r3 r4 r5 r6 r7 r8 r9 r10 r11 r12 r13 r14 h
 unfold F111 at h
 refine Trip.of tab_ok tab_one fol Try.func111 rfl (by kernel_rfl) rfl rfl rfl (fun M hM hI=>?_)
 try cbv
 refine seq_go ?_
 try cbv
 refine seq_go ?_
 try cbv
 replace h:=bO9_inv h
 obtain⟨z14,z15,s16,l17,z18,l19,z20,l21,l22,hr,h⟩:=h
 refine call_go rfl rfl ?_
 try cbv
 refine call_with hM hI [.ext 2,.ext 3] (T32 _ hr) rfl (by simp) ⟨rfl,⟨rfl,trivial⟩⟩ ⟨trivial,⟨trivial,trivial⟩⟩ (by simp) ?_
 clear hr
 try cbv
 refine seq_go ?_
 try cbv
 refine seq_join (T:=Nat×Bool) (fun t=>⟨[(1,.v (.c (.ptr (.ext 0) 0))),(3,.v (.c (.ptr (.loc 0) 0))),(4,.v (.c (.ptr (.loc 32) 0))),(5,.v (.d (.int .u8 0))),(6,.v (.c (.ptr (.loc 320) 0))),(7,.v (.d (.int .u8 z20))),(18,.v (.d (.bool t.2)))],[(.ext 0,.cells [.d (.list false 1 l7)]),(.ext 1,.cells [.d (.int .u8 z8),.d (.int .i64 z9),.d (.str s10),.ow (.ext 2),.d (.int .i64 z11),.ow (.ext 3)]),(.ext 2,.tree .row true 6 l21 none),(.ext 3,.tree .row false 1 l22 none),(.loc 0,.cells [.d (.int .u8 z1),.d (.int .i64 z2),.d (.str s3),.d (.list true 6 l4),.d (.int .i64 z5),.d (.list false 1 l6)]),(.loc 32,.cells [.d (.int .u8 0),.d (.int .i64 0),.d (.str ByteArray.empty),.nils true 6,.d (.int .i64 0),.nils false 1]),(.loc 320,.cells [.d (.int .u8 z14),.d (.int .i64 z15),.d (.str s16),.d (.list true 6 l17),.d (.int .i64 z18),.d (.list false 1 l19)])],480⟩) (fun t=>t.1≤n∧L111_1 t.1 z1 z2 s3 l4 z5 l6 l7 z8 z9 s10 z11 z14 z15 s16 l17 z18 l19 z20 l21 l22 t.2=some (r1,r2,r3,r4,r5,r6,r7,r8,r9,r10,r11,r12,r13,r14)) ?_ ?_
 ·try cbv
  refine splitI (fun e=>?_) (fun e=>?_)
  ·replace h:=ite_t e h
   clear e
   try cbv
   exact join_next (n,false) [1,3,4,5,6,7,18] [.ext 0,.ext 1,.ext 2,.ext 3,.loc 0,.loc 32,.loc 320] 480 ⟨by omega,h⟩ (by cbv)
  replace h:=ite_f e h
  clear e
  try cbv
  exact join_next (n,true) [1,3,4,5,6,7,18] [.ext 0,.ext 1,.ext 2,.ext 3,.loc 0,.loc 32,.loc 320] 480 ⟨by omega,h⟩ (by cbv)
 clear h
 rintro⟨m1,b23⟩ ⟨hm1,h⟩
 replace hm1:m1≤n:=hm1
 obtain _ | m1:=m1
 ·replace h:L111_1 0 z1 z2 s3 l4 z5 l6 l7 z8 z9 s10 z11 z14 z15 s16 l17 z18 l19 z20 l21 l22 b23=some (r1,r2,r3,r4,r5,r6,r7,r8,r9,r10,r11,r12,r13,r14):=h
  rw[L111_1]at h
  cases h
 replace h:L111_1 (m1+1) z1 z2 s3 l4 z5 l6 l7 z8 z9 s10 z11 z14 z15 s16 l17 z18 l19 z20 l21 l22 b23=some (r1,r2,r3,r4,r5,r6,r7,r8,r9,r10,r11,r12,r13,r14):=h
 rw[L111_1]at h
 try cbv
 cases b23
 rotate_left
 ·replace h:=ite_t rfl h
  try cbv
  refine seq_go ?_
  try cbv
  obtain⟨rfl,rfl,rfl,rfl,rfl,rfl,rfl,rfl,rfl,rfl,rfl,rfl,rfl,rfl⟩:=inj14 h
  refine fin_go ?_
  try cbv
  exact⟨[],rfl,rfl,⟨rfl,⟨rfl,⟨rfl,⟨rfl,trivial⟩⟩⟩⟩,trivial,trivial⟩
 replace h:=ite_f Bool.false_ne_true h
 try cbv
 refine seq_go ?_
 try cbv
 refine seq_go ?_
 try cbv
 replace h:=bO7_inv h
 obtain⟨z24,z25,s26,z27,z28,l29,l30,hr,h⟩:=h
 refine call_go rfl rfl ?_
 try cbv
 refine call_with hM hI [] (T30 _ hr) rfl (by simp) trivial trivial (by simp) ?_
 clear hr
 try cbv
 refine seq_join (T:=Nat×Bool) (fun t=>⟨[(4,.v (.c (.ptr (.loc 32) 0))),(5,.v (.d (.int .u8 0))),(6,.v (.c (.ptr (.loc 320) 0))),(28,.v (.d (.bool t.2)))],[(.ext 0,.cells [.d (.list false 1 l7)]),(.ext 1,.cells [.d (.int .u8 z8),.d (.int .i64 z9),.d (.str s10),.ow (.ext 2),.d (.int .i64 z11),.ow (.ext 3)]),(.ext 2,.tree .row true 6 l21 none),(.ext 3,.tree .row false 1 l22 none),(.loc 32,.cells [.d (.int .u8 0),.d (.int .i64 0),.d (.str ByteArray.empty),.nils true 6,.d (.int .i64 0),.nils false 1]),(.loc 320,.cells [.d (.int .u8 z14),.d (.int .i64 z15),.d (.str s16),.d (.list true 6 l17),.d (.int .i64 z18),.d (.list false 1 l19)])],832⟩) (fun t=>t.1≤m1∧L111_2 t.1 l7 z8 z9 s10 z11 z14 z15 s16 l17 z18 l19 l21 l22 t.2=some (r1,r2,r3,r4,r5,r6,r7,r8,r9,r10,r11,r12,r13,r14)) ?_ ?_
 ·try cbv
  refine splitI (fun e=>?_) (fun e=>?_)
  ·replace h:=ite_t e h
   clear e
   try cbv
   exact join_next (m1,false) [4,5,6,28] [.ext 0,.ext 1,.ext 2,.ext 3,.loc 32,.loc 320] 832 ⟨by omega,h⟩ (by cbv)
  replace h:=ite_f e h
  clear e
  try cbv
  exact join_next (m1,true) [4,5,6,28] [.ext 0,.ext 1,.ext 2,.ext 3,.loc 32,.loc 320] 832 ⟨by omega,h⟩ (by cbv)
 clear h
 rintro⟨m2,b31⟩ ⟨hm2,h⟩
 replace hm2:m2≤m1:=hm2
 obtain _ | m2:=m2
 ·replace h:L111_2 0 l7 z8 z9 s10 z11 z14 z15 s16 l17 z18 l19 l21 l22 b31=some (r1,r2,r3,r4,r5,r6,r7,r8,r9,r10,r11,r12,r13,r14):=h
  rw[L111_2]at h
  cases h
 replace h:L111_2 (m2+1) l7 z8 z9 s10 z11 z14 z15 s16 l17 z18 l19 l21 l22 b31=some (r1,r2,r3,r4,r5,r6,r7,r8,r9,r10,r11,r12,r13,r14):=h
 rw[L111_2]at h
 try cbv
 cases b31
 ·replace h:=ite_f Bool.false_ne_true h
  try cbv
  refine seq_go ?_
  try cbv
  obtain⟨rfl,rfl,rfl,rfl,rfl,rfl,rfl,rfl,rfl,rfl,rfl,rfl,rfl,rfl⟩:=inj14 h
  refine fin_go ?_
  try cbv
  exact⟨[],rfl,rfl,⟨rfl,⟨rfl,⟨rfl,⟨rfl,trivial⟩⟩⟩⟩,trivial,trivial⟩
 replace h:=ite_t rfl h
 try cbv
 refine seq_go ?_
 try cbv
 obtain⟨rfl,rfl,rfl,rfl,rfl,rfl,rfl,rfl,rfl,rfl,rfl,rfl,rfl,rfl⟩:=inj14 h
 refine fin_go ?_
 try cbv
 exact⟨[],rfl,rfl,⟨rfl,⟨rfl,⟨rfl,⟨rfl,trivial⟩⟩⟩⟩,trivial,trivial⟩
def L109_3:Nat→Int→Int→(List D)→Int→Int→ByteArray→Int→(List D)→(List D)→(List D)→Option (Int×Int×List D×List D×Int×Int×ByteArray×Int×List D×List D)
 | 0,_,_,_,_,_,_,_,_,_,_=>none
 | n+1,z18,z27,l28,z29,z30,s31,z32,l33,l34,l37=>
  some (z27,z18,l37,l28,z29,z30,s31,z32,l33,l34)
def L109_2:Nat→Int→Int→(List D)→Int→Int→ByteArray→(List D)→Int→(List D)→Int→(List D)→Int→Int→ByteArray→Int→(List D)→(List D)→Bool→Option (Int×Int×List D×List D×Int×Int×ByteArray×Int×List D×List D)
 | 0,_,_,_,_,_,_,_,_,_,_,_,_,_,_,_,_,_,_=>none
 | n+1,z1,z18,l19,z21,z22,s23,l24,z25,l26,z27,l28,z29,z30,s31,z32,l33,l34,b35=>
  (if b35=true then putF (.int .i64 z1) [.int .u8 z21,.int .i64 z22,.str s23,.list true 6 l24,.int .i64 z25,.list false 1 l26,.bool false] l19 fun l36=>L109_3 n z18 z27 l28 z29 z30 s31 z32 l33 l34 l36 else L109_3 n z18 z27 l28 z29 z30 s31 z32 l33 l34 l19)
def L109_1:Nat→Int→(List D)→Int→Int→ByteArray→Int→(List D)→(List D)→Int→Int→ByteArray→(List D)→Int→(List D)→Int→Int→(List D)→Bool→Option (Int×Int×List D×List D×Int×Int×ByteArray×Int×List D×List D)
 | 0,_,_,_,_,_,_,_,_,_,_,_,_,_,_,_,_,_,_=>none
 | n+1,z1,l4,z5,z6,s7,z8,l9,l10,z11,z12,s13,l14,z15,l16,z17,z18,l19,b20=>
  (if b20=true then some (z17,z18,l19,l4,z5,z6,s7,z8,l9,l10)else bO14 (F111 n z11 z12 s13 l14 z15 l16 l4 z5 z6 s7 z8 l9 l10) fun z21 z22 s23 l24 z25 l26 z27 l28 z29 z30 s31 z32 l33 l34=>(if z27=(0:Int)then L109_2 n z1 z18 l19 z21 z22 s23 l24 z25 l26 z27 l28 z29 z30 s31 z32 l33 l34 true else L109_2 n z1 z18 l19 z21 z22 s23 l24 z25 l26 z27 l28 z29 z30 s31 z32 l33 l34 false))
def F109 (n:Nat) (z1:Int) (z2:Int) (l3:List D) (l4:List D) (z5:Int) (z6:Int) (s7:ByteArray) (z8:Int) (l9:List D) (l10:List D):Option (Int×Int×List D×List D×Int×Int×ByteArray×Int×List D×List D):=
 bO9 (F108 n z1 z2 l3) fun z11 z12 s13 l14 z15 l16 z17 z18 l19=>(if z17=(0:Int)then L109_1 n z1 l4 z5 z6 s7 z8 l9 l10 z11 z12 s13 l14 z15 l16 z17 z18 l19 false else L109_1 n z1 l4 z5 z6 s7 z8 l9 l10 z11 z12 s13 l14 z15 l16 z17 z18 l19 true)
theorem T109 (n:Nat):∀⦃z1:Int⦄ ⦃z2:Int⦄ ⦃l3:List D⦄ ⦃l4:List D⦄ ⦃z5:Int⦄ ⦃z6:Int⦄ ⦃s7:ByteArray⦄ ⦃z8:Int⦄ ⦃l9:List D⦄ ⦃l10:List D⦄ ⦃r1:Int⦄ ⦃r2:Int⦄ ⦃r3:List D⦄ ⦃r4:List D⦄ ⦃r5:Int⦄ ⦃r6:Int⦄ ⦃r7:ByteArray⦄ ⦃r8:Int⦄ ⦃r9:List D⦄ ⦃r10:List D⦄,F109 n z1 z2 l3 l4 z5 z6 s7 z8 l9 l10=some (r1,r2,r3,r4,r5,r6,r7,r8,r9,r10)→
    Trip Try.prog inv 109 [.c (.ptr (.ext 0) 0),.d (.int .i64 z1),.c (.fn 111 [.ext 2,.ext 3])] [.cells [.ow (.ext 1),.d (.int .i64 z2)],.tree (.fmap true) true 8 l3 none,.cells [.d (.list false 1 l4)],.cells [.d (.int .u8 z5),.d (.int .i64 z6),.d (.str s7),.ow (.ext 4),.d (.int .i64 z8),.ow (.ext 5)],.tree .row true 6 l9 none,.tree .row false 1 l10 none] (.v (.d (.int .u8 r1))) [.cells [.ow (.ext 1),.d (.int .i64 r2)],.tree (.fmap true) true 8 r3 none,.cells [.d (.list false 1 r4)],.cells [.d (.int .u8 r5),.d (.int .i64 r6),.d (.str r7),.ow (.ext 4),.d (.int .i64 r8),.ow (.ext 5)],.tree .row true 6 r9 none,.tree .row false 1 r10 none] []:=by
 intro z1 z2 l3 l4 z5 z6 s7 z8 l9 l10 r1 r2 r3 r4 r5 r6 r7 r8 r9 r10 h
 unfold F109 at h
 refine Trip.of tab_ok tab_one fol Try.func109 rfl (by kernel_rfl) rfl rfl rfl (fun M hM hI=>?_)
 try cbv
 refine seq_go ?_
 try cbv
 refine seq_go ?_
 try cbv
 replace h:=bO9_inv h
 obtain⟨z11,z12,s13,l14,z15,l16,z17,z18,l19,hr,h⟩:=h
 refine call_go rfl rfl ?_
 try cbv
 refine call_with hM hI [.ext 0,.ext 1] (T108 _ hr) rfl (by simp) ⟨rfl,⟨rfl,trivial⟩⟩ ⟨trivial,⟨trivial,trivial⟩⟩ (by simp) ?_
 clear hr
 try cbv
 refine seq_go ?_
 try cbv
 refine seq_join (T:=Nat×Bool) (fun t=>⟨[(0,.v (.c (.ptr (.ext 0) 0))),(1,.v (.d (.int .i64 z1))),(2,.v (.c (.fn 111 [.ext 2,.ext 3]))),(6,.v (.d (.int .u8 0))),(7,.v (.c (.ptr (.loc 224) 0))),(8,.v (.d (.int .u8 z17))),(17,.v (.d (.bool t.2)))],[(.ext 0,.cells [.ow (.ext 1),.d (.int .i64 z18)]),(.ext 1,.tree (.fmap true) true 8 l19 none),(.ext 2,.cells [.d (.list false 1 l4)]),(.ext 3,.cells [.d (.int .u8 z5),.d (.int .i64 z6),.d (.str s7),.ow (.ext 4),.d (.int .i64 z8),.ow (.ext 5)]),(.ext 4,.tree .row true 6 l9 none),(.ext 5,.tree .row false 1 l10 none),(.loc 224,.cells [.d (.int .u8 z11),.d (.int .i64 z12),.d (.str s13),.d (.list true 6 l14),.d (.int .i64 z15),.d (.list false 1 l16)])],384⟩) (fun t=>t.1≤n∧L109_1 t.1 z1 l4 z5 z6 s7 z8 l9 l10 z11 z12 s13 l14 z15 l16 z17 z18 l19 t.2=some (r1,r2,r3,r4,r5,r6,r7,r8,r9,r10)) ?_ ?_
 ·try cbv
  refine splitI (fun e=>?_) (fun e=>?_)
  ·replace h:=ite_t e h
   clear e
   try cbv
   exact join_next (n,false) [0,1,2,6,7,8,17] [.ext 0,.ext 1,.ext 2,.ext 3,.ext 4,.ext 5,.loc 224] 384 ⟨by omega,h⟩ (by cbv)
  replace h:=ite_f e h
  clear e
  try cbv
  exact join_next (n,true) [0,1,2,6,7,8,17] [.ext 0,.ext 1,.ext 2,.ext 3,.ext 4,.ext 5,.loc 224] 384 ⟨by omega,h⟩ (by cbv)
 clear h
 rintro⟨m1,b20⟩ ⟨hm1,h⟩
 replace hm1:m1≤n:=hm1
 obtain _ | m1:=m1
 ·replace h:L109_1 0 z1 l4 z5 z6 s7 z8 l9 l10 z11 z12 s13 l14 z15 l16 z17 z18 l19 b20=some (r1,r2,r3,r4,r5,r6,r7,r8,r9,r10):=h
  rw[L109_1]at h
  cases h
 replace h:L109_1 (m1+1) z1 l4 z5 z6 s7 z8 l9 l10 z11 z12 s13 l14 z15 l16 z17 z18 l19 b20=some (r1,r2,r3,r4,r5,r6,r7,r8,r9,r10):=h
 rw[L109_1]at h
 try cbv
 cases b20
 rotate_left
 ·replace h:=ite_t rfl h
  try cbv
  refine seq_go ?_
  try cbv
  obtain⟨rfl,rfl,rfl,rfl,rfl,rfl,rfl,rfl,rfl,rfl⟩:=inj10 h
  refine fin_go ?_
  try cbv
  exact⟨[],rfl,rfl,⟨rfl,⟨rfl,⟨rfl,⟨rfl,⟨rfl,⟨rfl,trivial⟩⟩⟩⟩⟩⟩,trivial,trivial⟩
 replace h:=ite_f Bool.false_ne_true h
 try cbv
 refine seq_go ?_
 try cbv
 replace h:=bO14_inv h
 obtain⟨z21,z22,s23,l24,z25,l26,z27,l28,z29,z30,s31,z32,l33,l34,hr,h⟩:=h
 refine call_go rfl rfl ?_
 try cbv
 refine call_with hM hI [.ext 2,.ext 3,.ext 4,.ext 5] (T111 _ hr) rfl (by simp) ⟨rfl,⟨rfl,⟨rfl,⟨rfl,trivial⟩⟩⟩⟩ ⟨trivial,⟨trivial,⟨trivial,⟨trivial,trivial⟩⟩⟩⟩ (by simp) ?_
 clear hr
 try cbv
 refine seq_join (T:=Nat×List D) (fun t=>⟨[(6,.v (.d (.int .u8 0))),(8,.v (.d (.int .u8 z27)))],[(.ext 0,.cells [.ow (.ext 1),.d (.int .i64 z18)]),(.ext 1,.tree (.fmap true) true 8 t.2 none),(.ext 2,.cells [.d (.list false 1 l28)]),(.ext 3,.cells [.d (.int .u8 z29),.d (.int .i64 z30),.d (.str s31),.ow (.ext 4),.d (.int .i64 z32),.ow (.ext 5)]),(.ext 4,.tree .row true 6 l33 none),(.ext 5,.tree .row false 1 l34 none)],992⟩) (fun t=>t.1≤m1∧L109_3 t.1 z18 z27 l28 z29 z30 s31 z32 l33 l34 t.2=some (r1,r2,r3,r4,r5,r6,r7,r8,r9,r10)) ?_ ?_
 rotate_left
 ·clear h
  rintro⟨m3,l37⟩ ⟨hm3,h⟩
  replace hm3:m3≤m1:=hm3
  obtain _ | m3:=m3
  ·replace h:L109_3 0 z18 z27 l28 z29 z30 s31 z32 l33 l34 l37=some (r1,r2,r3,r4,r5,r6,r7,r8,r9,r10):=h
   rw[L109_3]at h
   cases h
  replace h:L109_3 (m3+1) z18 z27 l28 z29 z30 s31 z32 l33 l34 l37=some (r1,r2,r3,r4,r5,r6,r7,r8,r9,r10):=h
  rw[L109_3]at h
  try cbv
  refine seq_go ?_
  try cbv
  obtain⟨rfl,rfl,rfl,rfl,rfl,rfl,rfl,rfl,rfl,rfl⟩:=inj10 h
  refine fin_go ?_
  try cbv
  exact⟨[],rfl,rfl,⟨rfl,⟨rfl,⟨rfl,⟨rfl,⟨rfl,⟨rfl,trivial⟩⟩⟩⟩⟩⟩,trivial,trivial⟩
 try cbv
 refine seq_join (T:=Nat×Bool) (fun t=>⟨[(0,.v (.c (.ptr (.ext 0) 0))),(1,.v (.d (.int .i64 z1))),(6,.v (.d (.int .u8 0))),(8,.v (.d (.int .u8 z27))),(9,.v (.c (.ptr (.loc 576) 0))),(26,.v (.d (.bool t.2)))],[(.ext 0,.cells [.ow (.ext 1),.d (.int .i64 z18)]),(.ext 1,.tree (.fmap true) true 8 l19 none),(.ext 2,.cells [.d (.list false 1 l28)]),(.ext 3,.cells [.d (.int .u8 z29),.d (.int .i64 z30),.d (.str s31),.ow (.ext 4),.d (.int .i64 z32),.ow (.ext 5)]),(.ext 4,.tree .row true 6 l33 none),(.ext 5,.tree .row false 1 l34 none),(.loc 576,.cells [.d (.int .u8 z21),.d (.int .i64 z22),.d (.str s23),.d (.list true 6 l24),.d (.int .i64 z25),.d (.list false 1 l26)])],736⟩) (fun t=>t.1≤m1∧L109_2 t.1 z1 z18 l19 z21 z22 s23 l24 z25 l26 z27 l28 z29 z30 s31 z32 l33 l34 t.2=some (r1,r2,r3,r4,r5,r6,r7,r8,r9,r10)) ?_ ?_
 ·try cbv
  refine splitI (fun e=>?_) (fun e=>?_)
  ·replace h:=ite_t e h
   clear e
   try cbv
   exact join_next (m1,true) [0,1,6,8,9,26] [.ext 0,.ext 1,.ext 2,.ext 3,.ext 4,.ext 5,.loc 576] 736 ⟨by omega,h⟩ (by cbv)
  replace h:=ite_f e h
  clear e
  try cbv
  exact join_next (m1,false) [0,1,6,8,9,26] [.ext 0,.ext 1,.ext 2,.ext 3,.ext 4,.ext 5,.loc 576] 736 ⟨by omega,h⟩ (by cbv)
 clear h
 rintro⟨m2,b35⟩ ⟨hm2,h⟩
 replace hm2:m2≤m1:=hm2
 obtain _ | m2:=m2
 ·replace h:L109_2 0 z1 z18 l19 z21 z22 s23 l24 z25 l26 z27 l28 z29 z30 s31 z32 l33 l34 b35=some (r1,r2,r3,r4,r5,r6,r7,r8,r9,r10):=h
  rw[L109_2]at h
  cases h
 replace h:L109_2 (m2+1) z1 z18 l19 z21 z22 s23 l24 z25 l26 z27 l28 z29 z30 s31 z32 l33 l34 b35=some (r1,r2,r3,r4,r5,r6,r7,r8,r9,r10):=h
 rw[L109_2]at h
 try cbv
 cases b35
 ·replace h:=ite_f Bool.false_ne_true h
  try cbv
  exact join_next (m2,l19) [6,8] [.ext 0,.ext 1,.ext 2,.ext 3,.ext 4,.ext 5] 992 ⟨by omega,h⟩ (by cbv)
 replace h:=ite_t rfl h
 try cbv
 replace h:=putF_inv h
 obtain⟨l36,hz,h⟩:=h
 refine⟨l36,(M.lock_iff _).2 hz,?_⟩
 clear hz
 try cbv
 refine drawn ?_ ?_
 ·show _=true
  kernel_rfl
 try cbv
 exact join_next (m2,l36) [6,8] [.ext 0,.ext 1,.ext 2,.ext 3,.ext 4,.ext 5] 992 ⟨by omega,h⟩ (by cbv)
def F55 (n:Nat) (z1:Int) (l2:List D) (z3:Int) (z4:Int) (s5:ByteArray) (z6:Int) (z7:Int) (l8:List D) (l9:List D) (l10:List D):Option (Int×Int×List D×List D×List D):=
 bO10 (F109 n z1 z7 l8 l2 z3 z4 s5 z6 l9 l10) fun z11 z12 l13 l14 z15 z16 s17 z18 l19 l20=>some (z11,z12,l13,l19,l20)
theorem T55 (n:Nat):∀⦃z1:Int⦄ ⦃l2:List D⦄ ⦃z3:Int⦄ ⦃z4:Int⦄ ⦃s5:ByteArray⦄ ⦃z6:Int⦄ ⦃z7:Int⦄ ⦃l8:List D⦄ ⦃l9:List D⦄ ⦃l10:List D⦄ ⦃r1:Int⦄ ⦃r2:Int⦄ ⦃r3:List D⦄ ⦃r4:List D⦄ ⦃r5:List D⦄,F55 n z1 l2 z3 z4 s5 z6 z7 l8 l9 l10=some (r1,r2,r3,r4,r5)→
    Trip Try.prog inv 55 [.c (.ptr (.ext 0) 0),.d (.int .i64 z1),.d (.list false 1 l2),.agg [.d (.int .u8 z3),.d (.int .i64 z4),.d (.str s5),.ow (.ext 2),.d (.int .i64 z6),.ow (.ext 3)]] [.cells [.ow (.ext 1),.d (.int .i64 z7)],.tree (.fmap true) true 8 l8 none,.tree .row true 6 l9 none,.tree .row false 1 l10 none] (.v (.d (.int .u8 r1))) [.cells [.ow (.ext 1),.d (.int .i64 r2)],.tree (.fmap true) true 8 r3 none,.tree .row true 6 r4 none,.tree .row false 1 r5 none] []:=by
 intro z1 l2 z3 z4 s5 z6 z7 l8 l9 l10 r1 r2 r3 r4 r5 h
 unfold F55 at h
 refine Trip.of tab_ok tab_one fol Try.func55 rfl (by kernel_rfl) rfl rfl rfl (fun M hM hI=>?_)
 try cbv
 refine seq_go ?_
 try cbv
 refine seq_go ?_
 try cbv
 replace h:=bO10_inv h
 obtain⟨z11,z12,l13,l14,z15,z16,s17,z18,l19,l20,hr,h⟩:=h
 refine call_go rfl rfl ?_
 try cbv
 refine call_with hM hI [.ext 0,.ext 1,.loc 0,.loc 32,.ext 2,.ext 3] (T109 _ hr) rfl (by simp) ⟨rfl,⟨rfl,⟨rfl,⟨rfl,⟨rfl,⟨rfl,trivial⟩⟩⟩⟩⟩⟩ ⟨trivial,⟨trivial,⟨trivial,⟨trivial,⟨trivial,⟨trivial,trivial⟩⟩⟩⟩⟩⟩ (by simp) ?_
 clear hr
 try cbv
 obtain⟨rfl,rfl,rfl,rfl,rfl⟩:=inj5 h
 refine fin_go ?_
 try cbv
 exact⟨[],rfl,rfl,⟨rfl,⟨rfl,⟨rfl,⟨rfl,trivial⟩⟩⟩⟩,trivial,trivial⟩
def F56 (n:Nat) (z1:Int) (z2:Int) (l3:List D):Option (Bool×Int×List D):=
 bO9 (F108 n z1 z2 l3) fun z4 z5 s6 l7 z8 l9 z10 z11 l12=>(if z10=(0:Int)then some (true,z11,l12)else some (false,z11,l12))
theorem T56 (n:Nat):∀⦃z1:Int⦄ ⦃z2:Int⦄ ⦃l3:List D⦄ ⦃r1:Bool⦄ ⦃r2:Int⦄ ⦃r3:List D⦄,F56 n z1 z2 l3=some (r1,r2,r3)→
    Trip Try.prog inv 56 [.c (.ptr (.ext 0) 0),.d (.int .i64 z1)] [.cells [.ow (.ext 1),.d (.int .i64 z2)],.tree (.fmap true) true 8 l3 none] (.v (.d (.bool r1))) [.cells [.ow (.ext 1),.d (.int .i64 r2)],.tree (.fmap true) true 8 r3 none] []:=by
 intro z1 z2 l3 r1 r2 r3 h
 unfold F56 at h
 refine Trip.of tab_ok tab_one fol Try.func56 rfl (by kernel_rfl) rfl rfl rfl (fun M hM hI=>?_)
 try cbv
 refine seq_go ?_
 try cbv
 refine seq_go ?_
 try cbv
 replace h:=bO9_inv h
 obtain⟨z4,z5,s6,l7,z8,l9,z10,z11,l12,hr,h⟩:=h
 refine call_go rfl rfl ?_
 try cbv
 refine call_with hM hI [.ext 0,.ext 1] (T108 _ hr) rfl (by simp) ⟨rfl,⟨rfl,trivial⟩⟩ ⟨trivial,⟨trivial,trivial⟩⟩ (by simp) ?_
 clear hr
 try cbv
 refine seq_go ?_
 try cbv
 refine splitI (fun e=>?_) (fun e=>?_)
 ·replace h:=ite_t e h
  clear e
  try cbv
  obtain⟨rfl,rfl,rfl⟩:=inj3 h
  refine fin_go ?_
  try cbv
  exact⟨[],rfl,rfl,⟨rfl,⟨rfl,trivial⟩⟩,trivial,trivial⟩
 replace h:=ite_f e h
 clear e
 try cbv
 obtain⟨rfl,rfl,rfl⟩:=inj3 h
 refine fin_go ?_
 try cbv
 exact⟨[],rfl,rfl,⟨rfl,⟨rfl,trivial⟩⟩,trivial,trivial⟩
def F57 (n:Nat) (z1:Int) (l2:List D):Option (Int×Int×List D):=
 bO2 (F107 n z1 l2) fun z3 l4=>lenF l4 fun z5=>some (z5,z3,l4)
theorem T57 (n:Nat):∀⦃z1:Int⦄ ⦃l2:List D⦄ ⦃r1:Int⦄ ⦃r2:Int⦄ ⦃r3:List D⦄,F57 n z1 l2=some (r1,r2,r3)→
    Trip Try.prog inv 57 [.c (.ptr (.ext 0) 0)] [.cells [.ow (.ext 1),.d (.int .i64 z1)],.tree (.fmap true) true 8 l2 none] (.v (.d (.int .i64 r1))) [.cells [.ow (.ext 1),.d (.int .i64 r2)],.tree (.fmap true) true 8 r3 none] []:=by
 intro z1 l2 r1 r2 r3 h
 unfold F57 at h
 refine Trip.of tab_ok tab_one fol Try.func57 rfl (by kernel_rfl) rfl rfl rfl (fun M hM hI=>?_)
 try cbv
 refine seq_go ?_
 try cbv
 refine seq_go ?_
 try cbv
 refine seq_go ?_
 try cbv
 replace h:=bO2_inv h
 obtain⟨z3,l4,hr,h⟩:=h
 refine call_go rfl rfl ?_
 try cbv
 refine call_with hM hI [.ext 0,.ext 1] (T107 _ hr) rfl (by simp) ⟨rfl,⟨rfl,trivial⟩⟩ ⟨trivial,⟨trivial,trivial⟩⟩ (by simp) ?_
 clear hr
 try cbv
 refine seq_go ?_
 try cbv
 replace h:=lenF_inv M h
 obtain⟨z5,hz,h⟩:=h
 refine⟨true,?_⟩
 try cbv
 refine⟨z5,hz,?_⟩
 clear hz
 try cbv
 obtain⟨rfl,rfl,rfl⟩:=inj3 h
 refine fin_go ?_
 try cbv
 exact⟨[],rfl,rfl,⟨rfl,⟨rfl,trivial⟩⟩,trivial,trivial⟩
def F58 (n:Nat) (z1:Int) (l2:List D):Option (Int×Int×List D):=
 bO2 (F107 n z1 l2) fun z3 l4=>some (z3,z3,l4)
theorem T58 (n:Nat):∀⦃z1:Int⦄ ⦃l2:List D⦄ ⦃r1:Int⦄ ⦃r2:Int⦄ ⦃r3:List D⦄,F58 n z1 l2=some (r1,r2,r3)→
    Trip Try.prog inv 58 [.c (.ptr (.ext 0) 0)] [.cells [.ow (.ext 1),.d (.int .i64 z1)],.tree (.fmap true) true 8 l2 none] (.v (.d (.int .i64 r1))) [.cells [.ow (.ext 1),.d (.int .i64 r2)],.tree (.fmap true) true 8 r3 none] []:=by
 intro z1 l2 r1 r2 r3 h
 unfold F58 at h
 refine Trip.of tab_ok tab_one fol Try.func58 rfl (by kernel_rfl) rfl rfl rfl (fun M hM hI=>?_)
 try cbv
 refine seq_go ?_
 try cbv
 refine seq_go ?_
 try cbv
 refine seq_go ?_
 try cbv
 replace h:=bO2_inv h
 obtain⟨z3,l4,hr,h⟩:=h
 refine call_go rfl rfl ?_
 try cbv
 refine call_with hM hI [.ext 0,.ext 1] (T107 _ hr) rfl (by simp) ⟨rfl,⟨rfl,trivial⟩⟩ ⟨trivial,⟨trivial,trivial⟩⟩ (by simp) ?_
 clear hr
 try cbv
 refine seq_go ?_
 try cbv
 obtain⟨rfl,rfl,rfl⟩:=inj3 h
 refine fin_go ?_
 try cbv
 exact⟨[],rfl,rfl,⟨rfl,⟨rfl,trivial⟩⟩,trivial,trivial⟩
def L110_1:Nat→Int→Int→ByteArray→(List D)→Int→(List D)→(List D)→Int→Int→ByteArray→Int→Int→Int→ByteArray→(List D)→Int→(List D)→Int→Int→ByteArray→Int→Int→(List D)→(List D)→Bool→Option (((Int×Int×ByteArray×List D×Int×List D×Int×List D×Int×Int×ByteArray×Int×Int×Int×ByteArray×List D×Int×List D) ⊕ (Int×Int×ByteArray×List D×Int×List D×Int×List D×Int×Int×ByteArray×Int×Int×Int×ByteArray×List D×Int×List D×List D×List D)))
 | 0,_,_,_,_,_,_,_,_,_,_,_,_,_,_,_,_,_,_,_,_,_,_,_,_,_=>none
 | n+1,z1,z2,s3,l4,z5,l6,l7,z8,z9,s10,z11,z12,z13,s14,l15,z16,l17,z18,z19,s20,z21,z22,l23,l24,b25=>
  (if b25=true then some (.inl (z18,z19,s20,l23,z21,l24,z22,l7,z8,z9,s10,z11,z12,z13,s14,l15,z16,l17))else bO7 (F32x1 n z1 z2 s3 l4 z5 l6 l7 z12 z13 s14 l15 z16 l17) fun z26 z27 s28 l29 z30 l31 z32=>some (.inr (z26,z27,s28,l29,z30,l31,z32,l7,z18,z19,s20,z21,z12,z13,s14,l15,z16,l17,l23,l24)))
def F110 (n:Nat) (z1:Int) (z2:Int) (s3:ByteArray) (l4:List D) (z5:Int) (l6:List D) (l7:List D) (z8:Int) (z9:Int) (s10:ByteArray) (z11:Int) (z12:Int) (z13:Int) (s14:ByteArray) (l15:List D) (z16:Int) (l17:List D):Option (((Int×Int×ByteArray×List D×Int×List D×Int×List D×Int×Int×ByteArray×Int×Int×Int×ByteArray×List D×Int×List D) ⊕ (Int×Int×ByteArray×List D×Int×List D×Int×List D×Int×Int×ByteArray×Int×Int×Int×ByteArray×List D×Int×List D×List D×List D))):=
 bO7 (F30 n z1 z2 s3 l4 z5 l6 l7) fun z18 z19 s20 z21 z22 l23 l24=>(if z22=(0:Int)then L110_1 n z1 z2 s3 l4 z5 l6 l7 z8 z9 s10 z11 z12 z13 s14 l15 z16 l17 z18 z19 s20 z21 z22 l23 l24 false else L110_1 n z1 z2 s3 l4 z5 l6 l7 z8 z9 s10 z11 z12 z13 s14 l15 z16 l17 z18 z19 s20 z21 z22 l23 l24 true)
theorem T110 (n:Nat):∀⦃z1:Int⦄ ⦃z2:Int⦄ ⦃s3:ByteArray⦄ ⦃l4:List D⦄ ⦃z5:Int⦄ ⦃l6:List D⦄ ⦃l7:List D⦄ ⦃z8:Int⦄ ⦃z9:Int⦄ ⦃s10:ByteArray⦄ ⦃z11:Int⦄ ⦃z12:Int⦄ ⦃z13:Int⦄ ⦃s14:ByteArray⦄ ⦃l15:List D⦄ ⦃z16:Int⦄ ⦃l17:List D⦄ ⦃r:((Int×Int×ByteArray×List D×Int×List D×Int×List D×Int×Int×ByteArray×Int×Int×Int×ByteArray×List D×Int×List D) ⊕ (Int×Int×ByteArray×List D×Int×List D×Int×List D×Int×Int×ByteArray×Int×Int×Int×ByteArray×List D×Int×List D×List D×List D))⦄,F110 n z1 z2 s3 l4 z5 l6 l7 z8 z9 s10 z11 z12 z13 s14 l15 z16 l17=some r→∀Q:AV→List AObj→List AObj→Prop,(match r with | .inl (r1,r2,r3,r4,r5,r6,r7,r8,r9,r10,r11,r12,r13,r14,r15,r16,r17,r18)=>Q (.t [.d (.agg [.int .u8 r1,.int .i64 r2,.str r3,.list true 6 r4,.int .i64 r5,.list false 1 r6]),.d (.int .u8 r7)]) [.cells [.d (.list false 1 r8)],.cells [.d (.int .u8 r9),.d (.int .i64 r10),.d (.str r11),.nils true 6,.d (.int .i64 r12),.nils false 1],.cells [.d (.int .u8 r13),.d (.int .i64 r14),.d (.str r15),.d (.list true 6 r16),.d (.int .i64 r17),.d (.list false 1 r18)]] [] | .inr (r1,r2,r3,r4,r5,r6,r7,r8,r9,r10,r11,r12,r13,r14,r15,r16,r17,r18,r19,r20)=>Q (.t [.d (.agg [.int .u8 r1,.int .i64 r2,.str r3,.list true 6 r4,.int .i64 r5,.list false 1 r6]),.d (.int .u8 r7)]) [.cells [.d (.list false 1 r8)],.cells [.d (.int .u8 r9),.d (.int .i64 r10),.d (.str r11),.ow (.loc 0),.d (.int .i64 r12),.ow (.loc 1)],.cells [.d (.int .u8 r13),.d (.int .i64 r14),.d (.str r15),.d (.list true 6 r16),.d (.int .i64 r17),.d (.list false 1 r18)]] [.tree .row true 6 r19 none,.tree .row false 1 r20 none])→
    TripK Try.prog inv 110 [.d (.agg [.int .u8 z1,.int .i64 z2,.str s3,.list true 6 l4,.int .i64 z5,.list false 1 l6]),.c (.ptr (.ext 0) 0),.c (.ptr (.ext 1) 0),.c (.ptr (.ext 2) 0)] [.cells [.d (.list false 1 l7)],.cells [.d (.int .u8 z8),.d (.int .i64 z9),.d (.str s10),.nils true 6,.d (.int .i64 z11),.nils false 1],.cells [.d (.int .u8 z12),.d (.int .i64 z13),.d (.str s14),.d (.list true 6 l15),.d (.int .i64 z16),.d (.list false 1 l17)]] Q:=by
 intro z1 z2 s3 l4 z5 l6 l7 z8 z9 s10 z11 z12 z13 s14 l15 z16 l17 r h Q hQ
 unfold F110 at h
 refine TripK.of tab_ok tab_one fol Try.func110 rfl (by kernel_rfl) rfl rfl rfl (fun M hM hI=>?_)
 try cbv
 refine seq_go ?_
 try cbv
 refine seq_go ?_
 try cbv
 replace h:=bO7_inv h
 obtain⟨z18,z19,s20,z21,z22,l23,l24,hr,h⟩:=h
 refine call_go rfl rfl ?_
 try cbv
 refine call_with hM hI [] (T30 _ hr) rfl (by simp) trivial trivial (by simp) ?_
 clear hr
 try cbv
 refine seq_go ?_
 try cbv
 refine seq_join (T:=Nat×Bool) (fun t=>⟨[(1,.v (.c (.ptr (.ext 0) 0))),(2,.v (.c (.ptr (.ext 1) 0))),(3,.v (.c (.ptr (.ext 2) 0))),(4,.v (.c (.ptr (.loc 0) 0))),(5,.v (.c (.ptr (.loc 32) 0))),(6,.v (.d (.int .u8 0))),(7,.v (.c (.ptr (.loc 288) 0))),(8,.v (.d (.int .u8 z22))),(16,.v (.d (.bool t.2)))],[(.ext 0,.cells [.d (.list false 1 l7)]),(.ext 1,.cells [.d (.int .u8 z8),.d (.int .i64 z9),.d (.str s10),.nils true 6,.d (.int .i64 z11),.nils false 1]),(.ext 2,.cells [.d (.int .u8 z12),.d (.int .i64 z13),.d (.str s14),.d (.list true 6 l15),.d (.int .i64 z16),.d (.list false 1 l17)]),(.loc 0,.cells [.d (.int .u8 z1),.d (.int .i64 z2),.d (.str s3),.d (.list true 6 l4),.d (.int .i64 z5),.d (.list false 1 l6)]),(.loc 32,.cells [.d (.int .u8 0),.d (.int .i64 0),.d (.str ByteArray.empty),.nils true 6,.d (.int .i64 0),.nils false 1]),(.loc 288,.cells [.d (.int .u8 z18),.d (.int .i64 z19),.d (.str s20),.ow (.loc 160),.d (.int .i64 z21),.ow (.loc 161)]),(.loc 160,.tree .row true 6 l23 none),(.loc 161,.tree .row false 1 l24 none)],448⟩) (fun t=>t.1≤n∧L110_1 t.1 z1 z2 s3 l4 z5 l6 l7 z8 z9 s10 z11 z12 z13 s14 l15 z16 l17 z18 z19 s20 z21 z22 l23 l24 t.2=some r) ?_ ?_
 ·try cbv
  refine splitI (fun e=>?_) (fun e=>?_)
  ·replace h:=ite_t e h
   clear e
   try cbv
   exact join_next (n,false) [1,2,3,4,5,6,7,8,16] [.ext 0,.ext 1,.ext 2,.loc 0,.loc 32,.loc 288,.loc 160,.loc 161] 448 ⟨by omega,h⟩ (by cbv)
  replace h:=ite_f e h
  clear e
  try cbv
  exact join_next (n,true) [1,2,3,4,5,6,7,8,16] [.ext 0,.ext 1,.ext 2,.loc 0,.loc 32,.loc 288,.loc 160,.loc 161] 448 ⟨by omega,h⟩ (by cbv)
 clear h
 rintro⟨m1,b25⟩ ⟨hm1,h⟩
 replace hm1:m1≤n:=hm1
 obtain _ | m1:=m1
 ·replace h:L110_1 0 z1 z2 s3 l4 z5 l6 l7 z8 z9 s10 z11 z12 z13 s14 l15 z16 l17 z18 z19 s20 z21 z22 l23 l24 b25=some r:=h
  rw[L110_1]at h
  cases h
 replace h:L110_1 (m1+1) z1 z2 s3 l4 z5 l6 l7 z8 z9 s10 z11 z12 z13 s14 l15 z16 l17 z18 z19 s20 z21 z22 l23 l24 b25=some r:=h
 rw[L110_1]at h
 try cbv
 cases b25
 ·replace h:=ite_f Bool.false_ne_true h
  try cbv
  refine seq_go ?_
  try cbv
  refine seq_go ?_
  try cbv
  replace h:=bO7_inv h
  obtain⟨z26,z27,s28,l29,z30,l31,z32,hr,h⟩:=h
  refine call_go rfl rfl ?_
  try cbv
  refine call_pure hM hI (T32x1 _ hr) rfl ?_
  clear hr
  try cbv
  obtain rfl:=Option.some.inj h
  refine finQ_go hQ ?_
  try cbv
  exact⟨[.loc 160,.loc 161],rfl,rfl,⟨rfl,⟨rfl,⟨rfl,trivial⟩⟩⟩,⟨rfl,⟨rfl,trivial⟩⟩,trivial⟩
 replace h:=ite_t rfl h
 try cbv
 refine seq_go ?_
 try cbv
 obtain rfl:=Option.some.inj h
 refine⟨_,_,_,hQ,[.freeze (.loc 160),.freeze (.loc 161)],?_⟩
 try cbv
 exact⟨[],rfl,rfl,⟨rfl,⟨rfl,⟨rfl,trivial⟩⟩⟩,trivial,trivial⟩
def L109x1_4:Nat→Int→Int→(List D)→Int→Int→ByteArray→Int→Int→Int→ByteArray→(List D)→Int→(List D)→(List D)→(List D)→(List D)→Option (((Int×Int×List D×List D×Int×Int×ByteArray×Int×Int×Int×ByteArray×List D×Int×List D) ⊕ (Int×Int×List D×List D×Int×Int×ByteArray×Int×Int×Int×ByteArray×List D×Int×List D×List D×List D)))
 | 0,_,_,_,_,_,_,_,_,_,_,_,_,_,_,_,_=>none
 | n+1,z22,z65,l66,z67,z68,s69,z70,z71,z72,s73,l74,z75,l76,l83,l84,l87=>
  some (.inr (z65,z22,l87,l66,z67,z68,s69,z70,z71,z72,s73,l74,z75,l76,l83,l84))
def L109x1_3:Nat→Int→Int→(List D)→Int→(List D)→Int→Int→ByteArray→Int→Int→Int→ByteArray→(List D)→Int→(List D)→Int→Int→ByteArray→(List D)→Int→(List D)→(List D)→(List D)→Bool→Option (((Int×Int×List D×List D×Int×Int×ByteArray×Int×Int×Int×ByteArray×List D×Int×List D) ⊕ (Int×Int×List D×List D×Int×Int×ByteArray×Int×Int×Int×ByteArray×List D×Int×List D×List D×List D)))
 | 0,_,_,_,_,_,_,_,_,_,_,_,_,_,_,_,_,_,_,_,_,_,_,_,_=>none
 | n+1,z1,z22,l23,z65,l66,z67,z68,s69,z70,z71,z72,s73,l74,z75,l76,z77,z78,s79,l80,z81,l82,l83,l84,b85=>
  (if b85=true then putF (.int .i64 z1) [.int .u8 z77,.int .i64 z78,.str s79,.list true 6 l80,.int .i64 z81,.list false 1 l82,.bool false] l23 fun l86=>L109x1_4 n z22 z65 l66 z67 z68 s69 z70 z71 z72 s73 l74 z75 l76 l83 l84 l86 else L109x1_4 n z22 z65 l66 z67 z68 s69 z70 z71 z72 s73 l74 z75 l76 l83 l84 l23)
def L109x1_2:Nat→Int→Int→(List D)→Int→(List D)→Int→Int→ByteArray→Int→Int→Int→ByteArray→(List D)→Int→(List D)→Int→Int→ByteArray→(List D)→Int→(List D)→(List D)→(List D)→Option (((Int×Int×List D×List D×Int×Int×ByteArray×Int×Int×Int×ByteArray×List D×Int×List D) ⊕ (Int×Int×List D×List D×Int×Int×ByteArray×Int×Int×Int×ByteArray×List D×Int×List D×List D×List D)))
 | 0,_,_,_,_,_,_,_,_,_,_,_,_,_,_,_,_,_,_,_,_,_,_,_=>none
 | n+1,z1,z22,l23,z65,l66,z67,z68,s69,z70,z71,z72,s73,l74,z75,l76,z77,z78,s79,l80,z81,l82,l83,l84=>
  (if z65=(0:Int)then L109x1_3 n z1 z22 l23 z65 l66 z67 z68 s69 z70 z71 z72 s73 l74 z75 l76 z77 z78 s79 l80 z81 l82 l83 l84 true else L109x1_3 n z1 z22 l23 z65 l66 z67 z68 s69 z70 z71 z72 s73 l74 z75 l76 z77 z78 s79 l80 z81 l82 l83 l84 false)
def L109x1_1:Nat→Int→(List D)→Int→Int→ByteArray→Int→Int→Int→ByteArray→(List D)→Int→(List D)→Int→Int→ByteArray→(List D)→Int→(List D)→Int→Int→(List D)→Bool→Option (((Int×Int×List D×List D×Int×Int×ByteArray×Int×Int×Int×ByteArray×List D×Int×List D) ⊕ (Int×Int×List D×List D×Int×Int×ByteArray×Int×Int×Int×ByteArray×List D×Int×List D×List D×List D)))
 | 0,_,_,_,_,_,_,_,_,_,_,_,_,_,_,_,_,_,_,_,_,_,_=>none
 | n+1,z1,l4,z5,z6,s7,z8,z9,z10,s11,l12,z13,l14,z15,z16,s17,l18,z19,l20,z21,z22,l23,b24=>
  (if b24=true then some (.inl (z21,z22,l23,l4,z5,z6,s7,z8,z9,z10,s11,l12,z13,l14))else bS (F110 n z15 z16 s17 l18 z19 l20 l4 z5 z6 s7 z8 z9 z10 s11 l12 z13 l14) (fun p63=>bO18 (some p63) fun z25 z26 s27 l28 z29 l30 z31 l32 z33 z34 s35 z36 z37 z38 s39 l40 z41 l42=>L109x1_2 n z1 z22 l23 z31 l32 z33 z34 s35 z36 z37 z38 s39 l40 z41 l42 z25 z26 s27 l28 z29 l30 ([]:List D) ([]:List D)) (fun p64=>bO20 (some p64) fun z43 z44 s45 l46 z47 l48 z49 l50 z51 z52 s53 z54 z55 z56 s57 l58 z59 l60 l61 l62=>L109x1_2 n z1 z22 l23 z49 l50 z51 z52 s53 z54 z55 z56 s57 l58 z59 l60 z43 z44 s45 l46 z47 l48 l61 l62))
def F109x1 (n:Nat) (z1:Int) (z2:Int) (l3:List D) (l4:List D) (z5:Int) (z6:Int) (s7:ByteArray) (z8:Int) (z9:Int) (z10:Int) (s11:ByteArray) (l12:List D) (z13:Int) (l14:List D):Option (((Int×Int×List D×List D×Int×Int×ByteArray×Int×Int×Int×ByteArray×List D×Int×List D) ⊕ (Int×Int×List D×List D×Int×Int×ByteArray×Int×Int×Int×ByteArray×List D×Int×List D×List D×List D))):=
 bO9 (F108 n z1 z2 l3) fun z15 z16 s17 l18 z19 l20 z21 z22 l23=>(if z21=(0:Int)then L109x1_1 n z1 l4 z5 z6 s7 z8 z9 z10 s11 l12 z13 l14 z15 z16 s17 l18 z19 l20 z21 z22 l23 false else L109x1_1 n z1 l4 z5 z6 s7 z8 z9 z10 s11 l12 z13 l14 z15 z16 s17 l18 z19 l20 z21 z22 l23 true)
theorem T109x1 (n:Nat):∀⦃z1:Int⦄ ⦃z2:Int⦄ ⦃l3:List D⦄ ⦃l4:List D⦄ ⦃z5:Int⦄ ⦃z6:Int⦄ ⦃s7:ByteArray⦄ ⦃z8:Int⦄ ⦃z9:Int⦄ ⦃z10:Int⦄ ⦃s11:ByteArray⦄ ⦃l12:List D⦄ ⦃z13:Int⦄ ⦃l14:List D⦄ ⦃r:((Int×Int×List D×List D×Int×Int×ByteArray×Int×Int×Int×ByteArray×List D×Int×List D) ⊕ (Int×Int×List D×List D×Int×Int×ByteArray×Int×Int×Int×ByteArray×List D×Int×List D×List D×List D))⦄,F109x1 n z1 z2 l3 l4 z5 z6 s7 z8 z9 z10 s11 l12 z13 l14=some r→∀Q:AV→List AObj→List AObj→Prop,(match r with | .inl (r1,r2,r3,r4,r5,r6,r7,r8,r9,r10,r11,r12,r13,r14)=>Q (.v (.d (.int .u8 r1))) [.cells [.ow (.ext 1),.d (.int .i64 r2)],.tree (.fmap true) true 8 r3 none,.cells [.d (.list false 1 r4)],.cells [.d (.int .u8 r5),.d (.int .i64 r6),.d (.str r7),.nils true 6,.d (.int .i64 r8),.nils false 1],.cells [.d (.int .u8 r9),.d (.int .i64 r10),.d (.str r11),.d (.list true 6 r12),.d (.int .i64 r13),.d (.list false 1 r14)]] [] | .inr (r1,r2,r3,r4,r5,r6,r7,r8,r9,r10,r11,r12,r13,r14,r15,r16)=>Q (.v (.d (.int .u8 r1))) [.cells [.ow (.ext 1),.d (.int .i64 r2)],.tree (.fmap true) true 8 r3 none,.cells [.d (.list false 1 r4)],.cells [.d (.int .u8 r5),.d (.int .i64 r6),.d (.str r7),.ow (.loc 0),.d (.int .i64 r8),.ow (.loc 1)],.cells [.d (.int .u8 r9),.d (.int .i64 r10),.d (.str r11),.d (.list true 6 r12),.d (.int .i64 r13),.d (.list false 1 r14)]] [.tree .row true 6 r15 none,.tree .row false 1 r16 none])→
    TripK Try.prog inv 109 [.c (.ptr (.ext 0) 0),.d (.int .i64 z1),.c (.fn 110 [.ext 2,.ext 3,.ext 4])] [.cells [.ow (.ext 1),.d (.int .i64 z2)],.tree (.fmap true) true 8 l3 none,.cells [.d (.list false 1 l4)],.cells [.d (.int .u8 z5),.d (.int .i64 z6),.d (.str s7),.nils true 6,.d (.int .i64 z8),.nils false 1],.cells [.d (.int .u8 z9),.d (.int .i64 z10),.d (.str s11),.d (.list true 6 l12),.d (.int .i64 z13),.d (.list false 1 l14)]] Q:=by
 intro z1 z2 l3 l4 z5 z6 s7 z8 z9 z10 s11 l12 z13 l14 r h Q hQ
 unfold F109x1 at h
 refine TripK.of tab_ok tab_one fol Try.func109 rfl (by kernel_rfl) rfl rfl rfl (fun M hM hI=>?_)
 try cbv
 refine seq_go ?_
 try cbv
 refine seq_go ?_
 try cbv
 replace h:=bO9_inv h
 obtain⟨z15,z16,s17,l18,z19,l20,z21,z22,l23,hr,h⟩:=h
 refine call_go rfl rfl ?_
 try cbv
 refine call_with hM hI [.ext 0,.ext 1] (T108 _ hr) rfl (by simp) ⟨rfl,⟨rfl,trivial⟩⟩ ⟨trivial,⟨trivial,trivial⟩⟩ (by simp) ?_
 clear hr
 try cbv
 refine seq_go ?_
 try cbv
 refine seq_join (T:=Nat×Bool) (fun t=>⟨[(0,.v (.c (.ptr (.ext 0) 0))),(1,.v (.d (.int .i64 z1))),(2,.v (.c (.fn 110 [.ext 2,.ext 3,.ext 4]))),(6,.v (.d (.int .u8 0))),(7,.v (.c (.ptr (.loc 224) 0))),(8,.v (.d (.int .u8 z21))),(17,.v (.d (.bool t.2)))],[(.ext 0,.cells [.ow (.ext 1),.d (.int .i64 z22)]),(.ext 1,.tree (.fmap true) true 8 l23 none),(.ext 2,.cells [.d (.list false 1 l4)]),(.ext 3,.cells [.d (.int .u8 z5),.d (.int .i64 z6),.d (.str s7),.nils true 6,.d (.int .i64 z8),.nils false 1]),(.ext 4,.cells [.d (.int .u8 z9),.d (.int .i64 z10),.d (.str s11),.d (.list true 6 l12),.d (.int .i64 z13),.d (.list false 1 l14)]),(.loc 224,.cells [.d (.int .u8 z15),.d (.int .i64 z16),.d (.str s17),.d (.list true 6 l18),.d (.int .i64 z19),.d (.list false 1 l20)])],384⟩) (fun t=>t.1≤n∧L109x1_1 t.1 z1 l4 z5 z6 s7 z8 z9 z10 s11 l12 z13 l14 z15 z16 s17 l18 z19 l20 z21 z22 l23 t.2=some r) ?_ ?_
 ·try cbv
  refine splitI (fun e=>?_) (fun e=>?_)
  ·replace h:=ite_t e h
   clear e
   try cbv
   exact join_next (n,false) [0,1,2,6,7,8,17] [.ext 0,.ext 1,.ext 2,.ext 3,.ext 4,.loc 224] 384 ⟨by omega,h⟩ (by cbv)
  replace h:=ite_f e h
  clear e
  try cbv
  exact join_next (n,true) [0,1,2,6,7,8,17] [.ext 0,.ext 1,.ext 2,.ext 3,.ext 4,.loc 224] 384 ⟨by omega,h⟩ (by cbv)
 clear h
 rintro⟨m1,b24⟩ ⟨hm1,h⟩
 replace hm1:m1≤n:=hm1
 obtain _ | m1:=m1
 ·replace h:L109x1_1 0 z1 l4 z5 z6 s7 z8 z9 z10 s11 l12 z13 l14 z15 z16 s17 l18 z19 l20 z21 z22 l23 b24=some r:=h
  rw[L109x1_1]at h
  cases h
 replace h:L109x1_1 (m1+1) z1 l4 z5 z6 s7 z8 z9 z10 s11 l12 z13 l14 z15 z16 s17 l18 z19 l20 z21 z22 l23 b24=some r:=h
 rw[L109x1_1]at h
 try cbv
 cases b24
 rotate_left
 ·replace h:=ite_t rfl h
  try cbv
  refine seq_go ?_
  try cbv
  obtain rfl:=Option.some.inj h
  refine finQ_go hQ ?_
  try cbv
  exact⟨[],rfl,rfl,⟨rfl,⟨rfl,⟨rfl,⟨rfl,⟨rfl,trivial⟩⟩⟩⟩⟩,trivial,trivial⟩
 replace h:=ite_f Bool.false_ne_true h
 try cbv
 refine seq_join (T:=Nat×Int×List D×Int×Int×ByteArray×Int×Int×Int×ByteArray×List D×Int×List D×Int×Int×ByteArray×List D×Int×List D×List D×List D) (fun t=>⟨[(0,.v (.c (.ptr (.ext 0) 0))),(1,.v (.d (.int .i64 z1))),(6,.v (.d (.int .u8 0))),(8,.v (.d (.int .u8 t.2.1))),(9,.v (.c (.ptr (.loc 576) 0)))],[(.ext 0,.cells [.ow (.ext 1),.d (.int .i64 z22)]),(.ext 1,.tree (.fmap true) true 8 l23 none),(.ext 2,.cells [.d (.list false 1 t.2.2.1)]),(.ext 3,.cells [.d (.int .u8 t.2.2.2.1),.d (.int .i64 t.2.2.2.2.1),.d (.str t.2.2.2.2.2.1),.ow (.loc 672),.d (.int .i64 t.2.2.2.2.2.2.1),.ow (.loc 704)]),(.ext 4,.cells [.d (.int .u8 t.2.2.2.2.2.2.2.1),.d (.int .i64 t.2.2.2.2.2.2.2.2.1),.d (.str t.2.2.2.2.2.2.2.2.2.1),.d (.list true 6 t.2.2.2.2.2.2.2.2.2.2.1),.d (.int .i64 t.2.2.2.2.2.2.2.2.2.2.2.1),.d (.list false 1 t.2.2.2.2.2.2.2.2.2.2.2.2.1)]),(.loc 576,.cells [.d (.int .u8 t.2.2.2.2.2.2.2.2.2.2.2.2.2.1),.d (.int .i64 t.2.2.2.2.2.2.2.2.2.2.2.2.2.2.1),.d (.str t.2.2.2.2.2.2.2.2.2.2.2.2.2.2.2.1),.d (.list true 6 t.2.2.2.2.2.2.2.2.2.2.2.2.2.2.2.2.1),.d (.int .i64 t.2.2.2.2.2.2.2.2.2.2.2.2.2.2.2.2.2.1),.d (.list false 1 t.2.2.2.2.2.2.2.2.2.2.2.2.2.2.2.2.2.2.1)]),(.loc 672,.tree .row true 6 t.2.2.2.2.2.2.2.2.2.2.2.2.2.2.2.2.2.2.2.1 none),(.loc 704,.tree .row false 1 t.2.2.2.2.2.2.2.2.2.2.2.2.2.2.2.2.2.2.2.2 none)],736⟩) (fun t=>t.1≤m1∧L109x1_2 t.1 z1 z22 l23 t.2.1 t.2.2.1 t.2.2.2.1 t.2.2.2.2.1 t.2.2.2.2.2.1 t.2.2.2.2.2.2.1 t.2.2.2.2.2.2.2.1 t.2.2.2.2.2.2.2.2.1 t.2.2.2.2.2.2.2.2.2.1 t.2.2.2.2.2.2.2.2.2.2.1 t.2.2.2.2.2.2.2.2.2.2.2.1 t.2.2.2.2.2.2.2.2.2.2.2.2.1 t.2.2.2.2.2.2.2.2.2.2.2.2.2.1 t.2.2.2.2.2.2.2.2.2.2.2.2.2.2.1 t.2.2.2.2.2.2.2.2.2.2.2.2.2.2.2.1 t.2.2.2.2.2.2.2.2.2.2.2.2.2.2.2.2.1 t.2.2.2.2.2.2.2.2.2.2.2.2.2.2.2.2.2.1 t.2.2.2.2.2.2.2.2.2.2.2.2.2.2.2.2.2.2.1 t.2.2.2.2.2.2.2.2.2.2.2.2.2.2.2.2.2.2.2.1 t.2.2.2.2.2.2.2.2.2.2.2.2.2.2.2.2.2.2.2.2=some r) ?_ ?_
 ·try cbv
  replace h:=bS_inv h
  rcases h with⟨p63,hr,h⟩ | ⟨p64,hr,h⟩
  ·replace h:=bO18_inv h
   obtain⟨z25,z26,s27,l28,z29,l30,z31,l32,z33,z34,s35,z36,z37,z38,s39,l40,z41,l42,hp,h⟩:=h
   obtain rfl:=Option.some.inj hp
   clear hp
   refine call_go rfl rfl ?_
   try cbv
   refine call_with hM hI [.ext 2,.ext 3,.ext 4] (T110 _ hr (fun r p n=>r= .t [.d (.agg [.int .u8 z25,.int .i64 z26,.str s27,.list true 6 l28,.int .i64 z29,.list false 1 l30]),.d (.int .u8 z31)]∧p=[.cells [.d (.list false 1 l32)],.cells [.d (.int .u8 z33),.d (.int .i64 z34),.d (.str s35),.nils true 6,.d (.int .i64 z36),.nils false 1],.cells [.d (.int .u8 z37),.d (.int .i64 z38),.d (.str s39),.d (.list true 6 l40),.d (.int .i64 z41),.d (.list false 1 l42)]]∧n=[]) ⟨rfl,rfl,rfl⟩:Trip _ _ _ _ _ (.t [.d (.agg [.int .u8 z25,.int .i64 z26,.str s27,.list true 6 l28,.int .i64 z29,.list false 1 l30]),.d (.int .u8 z31)]) [.cells [.d (.list false 1 l32)],.cells [.d (.int .u8 z33),.d (.int .i64 z34),.d (.str s35),.nils true 6,.d (.int .i64 z36),.nils false 1],.cells [.d (.int .u8 z37),.d (.int .i64 z38),.d (.str s39),.d (.list true 6 l40),.d (.int .i64 z41),.d (.list false 1 l42)]] []) rfl (by simp) ⟨rfl,⟨rfl,⟨rfl,trivial⟩⟩⟩ ⟨trivial,⟨trivial,⟨trivial,trivial⟩⟩⟩ (by simp) ?_
   clear hr
   try cbv
   refine join_nextG (m1,(z31,l32,z33,z34,s35,z36,z37,z38,s39,l40,z41,l42,z25,z26,s27,l28,z29,l30,([]:List D),([]:List D))) [.treeC (.ext 3) 3 true 6,.treeC (.ext 3) 5 false 1] [] [0,1,6,8,9] [.ext 0,.ext 1,.ext 2,.ext 3,.ext 4,.loc 576,.loc 672,.loc 704] 736 ⟨by omega,h⟩ ?_
   try cbv
   first | done | exact rfl | cbv
  replace h:=bO20_inv h
  obtain⟨z43,z44,s45,l46,z47,l48,z49,l50,z51,z52,s53,z54,z55,z56,s57,l58,z59,l60,l61,l62,hp,h⟩:=h
  obtain rfl:=Option.some.inj hp
  clear hp
  refine call_go rfl rfl ?_
  try cbv
  refine call_with hM hI [.ext 2,.ext 3,.ext 4] (T110 _ hr (fun r p n=>r= .t [.d (.agg [.int .u8 z43,.int .i64 z44,.str s45,.list true 6 l46,.int .i64 z47,.list false 1 l48]),.d (.int .u8 z49)]∧p=[.cells [.d (.list false 1 l50)],.cells [.d (.int .u8 z51),.d (.int .i64 z52),.d (.str s53),.ow (.loc 0),.d (.int .i64 z54),.ow (.loc 1)],.cells [.d (.int .u8 z55),.d (.int .i64 z56),.d (.str s57),.d (.list true 6 l58),.d (.int .i64 z59),.d (.list false 1 l60)]]∧n=[.tree .row true 6 l61 none,.tree .row false 1 l62 none]) ⟨rfl,rfl,rfl⟩:Trip _ _ _ _ _ (.t [.d (.agg [.int .u8 z43,.int .i64 z44,.str s45,.list true 6 l46,.int .i64 z47,.list false 1 l48]),.d (.int .u8 z49)]) [.cells [.d (.list false 1 l50)],.cells [.d (.int .u8 z51),.d (.int .i64 z52),.d (.str s53),.ow (.loc 0),.d (.int .i64 z54),.ow (.loc 1)],.cells [.d (.int .u8 z55),.d (.int .i64 z56),.d (.str s57),.d (.list true 6 l58),.d (.int .i64 z59),.d (.list false 1 l60)]] [.tree .row true 6 l61 none,.tree .row false 1 l62 none]) rfl (by simp) ⟨rfl,⟨rfl,⟨rfl,trivial⟩⟩⟩ ⟨trivial,⟨trivial,⟨trivial,trivial⟩⟩⟩ (by simp) ?_
  clear hr
  try cbv
  refine join_nextG (m1,(z49,l50,z51,z52,s53,z54,z55,z56,s57,l58,z59,l60,z43,z44,s45,l46,z47,l48,l61,l62)) [] [(448,672),(449,704)] [0,1,6,8,9] [.ext 0,.ext 1,.ext 2,.ext 3,.ext 4,.loc 576,.loc 448,.loc 449] 736 ⟨by omega,h⟩ ?_
  try cbv
  first | done | exact rfl | cbv
 clear h
 rintro⟨m2,z65,l66,z67,z68,s69,z70,z71,z72,s73,l74,z75,l76,z77,z78,s79,l80,z81,l82,l83,l84⟩ ⟨hm2,h⟩
 replace hm2:m2≤m1:=hm2
 obtain _ | m2:=m2
 ·replace h:L109x1_2 0 z1 z22 l23 z65 l66 z67 z68 s69 z70 z71 z72 s73 l74 z75 l76 z77 z78 s79 l80 z81 l82 l83 l84=some r:=h
  rw[L109x1_2]at h
  cases h
 replace h:L109x1_2 (m2+1) z1 z22 l23 z65 l66 z67 z68 s69 z70 z71 z72 s73 l74 z75 l76 z77 z78 s79 l80 z81 l82 l83 l84=some r:=h
 rw[L109x1_2]at h
 try cbv
 refine seq_join (T:=Nat×List D) (fun t=>⟨[(6,.v (.d (.int .u8 0))),(8,.v (.d (.int .u8 z65)))],[(.ext 0,.cells [.ow (.ext 1),.d (.int .i64 z22)]),(.ext 1,.tree (.fmap true) true 8 t.2 none),(.ext 2,.cells [.d (.list false 1 l66)]),(.ext 3,.cells [.d (.int .u8 z67),.d (.int .i64 z68),.d (.str s69),.ow (.loc 672),.d (.int .i64 z70),.ow (.loc 704)]),(.ext 4,.cells [.d (.int .u8 z71),.d (.int .i64 z72),.d (.str s73),.d (.list true 6 l74),.d (.int .i64 z75),.d (.list false 1 l76)]),(.loc 672,.tree .row true 6 l83 none),(.loc 704,.tree .row false 1 l84 none)],1056⟩) (fun t=>t.1≤m2∧L109x1_4 t.1 z22 z65 l66 z67 z68 s69 z70 z71 z72 s73 l74 z75 l76 l83 l84 t.2=some r) ?_ ?_
 rotate_left
 ·clear h
  rintro⟨m4,l87⟩ ⟨hm4,h⟩
  replace hm4:m4≤m2:=hm4
  obtain _ | m4:=m4
  ·replace h:L109x1_4 0 z22 z65 l66 z67 z68 s69 z70 z71 z72 s73 l74 z75 l76 l83 l84 l87=some r:=h
   rw[L109x1_4]at h
   cases h
  replace h:L109x1_4 (m4+1) z22 z65 l66 z67 z68 s69 z70 z71 z72 s73 l74 z75 l76 l83 l84 l87=some r:=h
  rw[L109x1_4]at h
  try cbv
  refine seq_go ?_
  try cbv
  obtain rfl:=Option.some.inj h
  refine finQ_go hQ ?_
  try cbv
  exact⟨[.loc 672,.loc 704],rfl,rfl,⟨rfl,⟨rfl,⟨rfl,⟨rfl,⟨rfl,trivial⟩⟩⟩⟩⟩,⟨rfl,⟨rfl,trivial⟩⟩,trivial⟩
 try cbv
 refine seq_join (T:=Nat×Bool) (fun t=>⟨[(0,.v (.c (.ptr (.ext 0) 0))),(1,.v (.d (.int .i64 z1))),(6,.v (.d (.int .u8 0))),(8,.v (.d (.int .u8 z65))),(9,.v (.c (.ptr (.loc 576) 0))),(26,.v (.d (.bool t.2)))],[(.ext 0,.cells [.ow (.ext 1),.d (.int .i64 z22)]),(.ext 1,.tree (.fmap true) true 8 l23 none),(.ext 2,.cells [.d (.list false 1 l66)]),(.ext 3,.cells [.d (.int .u8 z67),.d (.int .i64 z68),.d (.str s69),.ow (.loc 672),.d (.int .i64 z70),.ow (.loc 704)]),(.ext 4,.cells [.d (.int .u8 z71),.d (.int .i64 z72),.d (.str s73),.d (.list true 6 l74),.d (.int .i64 z75),.d (.list false 1 l76)]),(.loc 576,.cells [.d (.int .u8 z77),.d (.int .i64 z78),.d (.str s79),.d (.list true 6 l80),.d (.int .i64 z81),.d (.list false 1 l82)]),(.loc 672,.tree .row true 6 l83 none),(.loc 704,.tree .row false 1 l84 none)],800⟩) (fun t=>t.1≤m2∧L109x1_3 t.1 z1 z22 l23 z65 l66 z67 z68 s69 z70 z71 z72 s73 l74 z75 l76 z77 z78 s79 l80 z81 l82 l83 l84 t.2=some r) ?_ ?_
 ·try cbv
  refine splitI (fun e=>?_) (fun e=>?_)
  ·replace h:=ite_t e h
   clear e
   try cbv
   exact join_next (m2,true) [0,1,6,8,9,26] [.ext 0,.ext 1,.ext 2,.ext 3,.ext 4,.loc 576,.loc 672,.loc 704] 800 ⟨by omega,h⟩ (by cbv)
  replace h:=ite_f e h
  clear e
  try cbv
  exact join_next (m2,false) [0,1,6,8,9,26] [.ext 0,.ext 1,.ext 2,.ext 3,.ext 4,.loc 576,.loc 672,.loc 704] 800 ⟨by omega,h⟩ (by cbv)
 clear h
 rintro⟨m3,b85⟩ ⟨hm3,h⟩
 replace hm3:m3≤m2:=hm3
 obtain _ | m3:=m3
 ·replace h:L109x1_3 0 z1 z22 l23 z65 l66 z67 z68 s69 z70 z71 z72 s73 l74 z75 l76 z77 z78 s79 l80 z81 l82 l83 l84 b85=some r:=h
  rw[L109x1_3]at h
  cases h
 replace h:L109x1_3 (m3+1) z1 z22 l23 z65 l66 z67 z68 s69 z70 z71 z72 s73 l74 z75 l76 z77 z78 s79 l80 z81 l82 l83 l84 b85=some r:=h
 rw[L109x1_3]at h
 try cbv
 cases b85
 ·replace h:=ite_f Bool.false_ne_true h
  try cbv
  exact join_next (m3,l23) [6,8] [.ext 0,.ext 1,.ext 2,.ext 3,.ext 4,.loc 672,.loc 704] 1056 ⟨by omega,h⟩ (by cbv)
 replace h:=ite_t rfl h
 try cbv
 replace h:=putF_inv h
 obtain⟨l86,hz,h⟩:=h
 refine⟨l86,(M.lock_iff _).2 hz,?_⟩
 clear hz
 try cbv
 refine drawn ?_ ?_
 ·show _=true
  kernel_rfl
 try cbv
 exact join_next (m3,l86) [6,8] [.ext 0,.ext 1,.ext 2,.ext 3,.ext 4,.loc 672,.loc 704] 1056 ⟨by omega,h⟩ (by cbv)
def L53_1:Nat→Int→Int→(List D)→Int→Int→ByteArray→Int→(List D)→(List D)→Option (Int×Int×ByteArray×Int×Int×Int×List D×List D×List D)
 | 0,_,_,_,_,_,_,_,_,_=>none
 | n+1,z43,z44,l45,z46,z47,s48,z49,l50,l51=>
  some (z46,z47,s48,z49,z43,z44,l45,l50,l51)
def F53 (n:Nat) (z1:Int) (l2:List D) (z3:Int) (z4:Int) (s5:ByteArray) (l6:List D) (z7:Int) (l8:List D) (z9:Int) (l10:List D):Option (Int×Int×ByteArray×Int×Int×Int×List D×List D×List D):=
 bS (F109x1 n z1 z9 l10 l2 (0:Int) (0:Int) ByteArray.empty (0:Int) z3 z4 s5 l6 z7 l8) (fun p41=>bO14 (some p41) fun z11 z12 l13 l14 z15 z16 s17 z18 z19 z20 s21 l22 z23 l24=>L53_1 n z11 z12 l13 z15 z16 s17 z18 ([]:List D) ([]:List D)) (fun p42=>bO16 (some p42) fun z25 z26 l27 l28 z29 z30 s31 z32 z33 z34 s35 l36 z37 l38 l39 l40=>L53_1 n z25 z26 l27 z29 z30 s31 z32 l39 l40)
theorem T53 (n:Nat):∀⦃z1:Int⦄ ⦃l2:List D⦄ ⦃z3:Int⦄ ⦃z4:Int⦄ ⦃s5:ByteArray⦄ ⦃l6:List D⦄ ⦃z7:Int⦄ ⦃l8:List D⦄ ⦃z9:Int⦄ ⦃l10:List D⦄ ⦃r1:Int⦄ ⦃r2:Int⦄ ⦃r3:ByteArray⦄ ⦃r4:Int⦄ ⦃r5:Int⦄ ⦃r6:Int⦄ ⦃r7:List D⦄ ⦃r8:List D⦄ ⦃r9:List D⦄,F53 n z1 l2 z3 z4 s5 l6 z7 l8 z9 l10=some (r1,r2,r3,r4,r5,r6,r7,r8,r9)→
    Trip Try.prog inv 53 [.c (.ptr (.ext 0) 0),.d (.int .i64 z1),.d (.list false 1 l2),.d (.agg [.int .u8 z3,.int .i64 z4,.str s5,.list true 6 l6,.int .i64 z7,.list false 1 l8])] [.cells [.ow (.ext 1),.d (.int .i64 z9)],.tree (.fmap true) true 8 l10 none] (.t [.agg [.d (.int .u8 r1),.d (.int .i64 r2),.d (.str r3),.ow (.loc 0),.d (.int .i64 r4),.ow (.loc 1)],.d (.int .u8 r5)]) [.cells [.ow (.ext 1),.d (.int .i64 r6)],.tree (.fmap true) true 8 r7 none] [.tree .row true 6 r8 none,.tree .row false 1 r9 none]:=by
 intro z1 l2 z3 z4 s5 l6 z7 l8 z9 l10 r1 r2 r3 r4 r5 r6 r7 r8 r9 h
 unfold F53 at h
 refine Trip.of tab_ok tab_one fol Try.func53 rfl (by kernel_rfl) rfl rfl rfl (fun M hM hI=>?_)
 try cbv
 refine seq_go ?_
 try cbv
 refine seq_go ?_
 try cbv
 refine seq_join (T:=Nat×Int×Int×List D×Int×Int×ByteArray×Int×List D×List D) (fun t=>⟨[(8,.v (.c (.ptr (.loc 64) 0))),(9,.v (.d (.int .u8 0))),(10,.v (.c (.ptr (.loc 128) 0))),(11,.v (.d (.int .u8 t.2.1)))],[(.ext 0,.cells [.ow (.ext 1),.d (.int .i64 t.2.2.1)]),(.ext 1,.tree (.fmap true) true 8 t.2.2.2.1 none),(.loc 64,.cells [.d (.int .u8 0),.d (.int .i64 0),.d (.str ByteArray.empty),.nils true 6,.d (.int .i64 0),.nils false 1]),(.loc 128,.cells [.d (.int .u8 t.2.2.2.2.1),.d (.int .i64 t.2.2.2.2.2.1),.d (.str t.2.2.2.2.2.2.1),.ow (.loc 320),.d (.int .i64 t.2.2.2.2.2.2.2.1),.ow (.loc 352)]),(.loc 320,.tree .row true 6 t.2.2.2.2.2.2.2.2.1 none),(.loc 352,.tree .row false 1 t.2.2.2.2.2.2.2.2.2 none)],384⟩) (fun t=>t.1≤n∧L53_1 t.1 t.2.1 t.2.2.1 t.2.2.2.1 t.2.2.2.2.1 t.2.2.2.2.2.1 t.2.2.2.2.2.2.1 t.2.2.2.2.2.2.2.1 t.2.2.2.2.2.2.2.2.1 t.2.2.2.2.2.2.2.2.2=some (r1,r2,r3,r4,r5,r6,r7,r8,r9)) ?_ ?_
 ·try cbv
  replace h:=bS_inv h
  rcases h with⟨p41,hr,h⟩ | ⟨p42,hr,h⟩
  ·replace h:=bO14_inv h
   obtain⟨z11,z12,l13,l14,z15,z16,s17,z18,z19,z20,s21,l22,z23,l24,hp,h⟩:=h
   obtain rfl:=Option.some.inj hp
   clear hp
   refine call_go rfl rfl ?_
   try cbv
   refine call_with hM hI [.ext 0,.ext 1,.loc 0,.loc 128,.loc 32] (T109x1 _ hr (fun r p n=>r= .v (.d (.int .u8 z11))∧p=[.cells [.ow (.ext 1),.d (.int .i64 z12)],.tree (.fmap true) true 8 l13 none,.cells [.d (.list false 1 l14)],.cells [.d (.int .u8 z15),.d (.int .i64 z16),.d (.str s17),.nils true 6,.d (.int .i64 z18),.nils false 1],.cells [.d (.int .u8 z19),.d (.int .i64 z20),.d (.str s21),.d (.list true 6 l22),.d (.int .i64 z23),.d (.list false 1 l24)]]∧n=[]) ⟨rfl,rfl,rfl⟩:Trip _ _ _ _ _ (.v (.d (.int .u8 z11))) [.cells [.ow (.ext 1),.d (.int .i64 z12)],.tree (.fmap true) true 8 l13 none,.cells [.d (.list false 1 l14)],.cells [.d (.int .u8 z15),.d (.int .i64 z16),.d (.str s17),.nils true 6,.d (.int .i64 z18),.nils false 1],.cells [.d (.int .u8 z19),.d (.int .i64 z20),.d (.str s21),.d (.list true 6 l22),.d (.int .i64 z23),.d (.list false 1 l24)]] []) rfl (by simp) ⟨rfl,⟨rfl,⟨rfl,⟨rfl,⟨rfl,trivial⟩⟩⟩⟩⟩ ⟨trivial,⟨trivial,⟨trivial,⟨trivial,⟨trivial,trivial⟩⟩⟩⟩⟩ (by simp) ?_
   clear hr
   try cbv
   refine join_nextG (n,(z11,z12,l13,z15,z16,s17,z18,([]:List D),([]:List D))) [.treeC (.loc 128) 3 true 6,.treeC (.loc 128) 5 false 1] [] [8,9,10,11] [.ext 0,.ext 1,.loc 64,.loc 128,.loc 320,.loc 352] 384 ⟨by omega,h⟩ ?_
   try cbv
   first | done | exact rfl | cbv
  replace h:=bO16_inv h
  obtain⟨z25,z26,l27,l28,z29,z30,s31,z32,z33,z34,s35,l36,z37,l38,l39,l40,hp,h⟩:=h
  obtain rfl:=Option.some.inj hp
  clear hp
  refine call_go rfl rfl ?_
  try cbv
  refine call_with hM hI [.ext 0,.ext 1,.loc 0,.loc 128,.loc 32] (T109x1 _ hr (fun r p n=>r= .v (.d (.int .u8 z25))∧p=[.cells [.ow (.ext 1),.d (.int .i64 z26)],.tree (.fmap true) true 8 l27 none,.cells [.d (.list false 1 l28)],.cells [.d (.int .u8 z29),.d (.int .i64 z30),.d (.str s31),.ow (.loc 0),.d (.int .i64 z32),.ow (.loc 1)],.cells [.d (.int .u8 z33),.d (.int .i64 z34),.d (.str s35),.d (.list true 6 l36),.d (.int .i64 z37),.d (.list false 1 l38)]]∧n=[.tree .row true 6 l39 none,.tree .row false 1 l40 none]) ⟨rfl,rfl,rfl⟩:Trip _ _ _ _ _ (.v (.d (.int .u8 z25))) [.cells [.ow (.ext 1),.d (.int .i64 z26)],.tree (.fmap true) true 8 l27 none,.cells [.d (.list false 1 l28)],.cells [.d (.int .u8 z29),.d (.int .i64 z30),.d (.str s31),.ow (.loc 0),.d (.int .i64 z32),.ow (.loc 1)],.cells [.d (.int .u8 z33),.d (.int .i64 z34),.d (.str s35),.d (.list true 6 l36),.d (.int .i64 z37),.d (.list false 1 l38)]] [.tree .row true 6 l39 none,.tree .row false 1 l40 none]) rfl (by simp) ⟨rfl,⟨rfl,⟨rfl,⟨rfl,⟨rfl,trivial⟩⟩⟩⟩⟩ ⟨trivial,⟨trivial,⟨trivial,⟨trivial,⟨trivial,trivial⟩⟩⟩⟩⟩ (by simp) ?_
  clear hr
  try cbv
  refine join_nextG (n,(z25,z26,l27,z29,z30,s31,z32,l39,l40)) [] [(256,320),(257,352)] [8,9,10,11] [.ext 0,.ext 1,.loc 64,.loc 128,.loc 256,.loc 257] 384 ⟨by omega,h⟩ ?_
  try cbv
  first | done | exact rfl | cbv
 clear h
 rintro⟨m1,z43,z44,l45,z46,z47,s48,z49,l50,l51⟩ ⟨hm1,h⟩
 replace hm1:m1≤n:=hm1
 obtain _ | m1:=m1
 ·replace h:L53_1 0 z43 z44 l45 z46 z47 s48 z49 l50 l51=some (r1,r2,r3,r4,r5,r6,r7,r8,r9):=h
  rw[L53_1]at h
  cases h
 replace h:L53_1 (m1+1) z43 z44 l45 z46 z47 s48 z49 l50 l51=some (r1,r2,r3,r4,r5,r6,r7,r8,r9):=h
 rw[L53_1]at h
 try cbv
 refine seq_go ?_
 try cbv
 obtain⟨rfl,rfl,rfl,rfl,rfl,rfl,rfl,rfl,rfl⟩:=inj9 h
 refine fin_go ?_
 try cbv
 exact⟨[.loc 320,.loc 352],rfl,rfl,⟨rfl,⟨rfl,trivial⟩⟩,⟨rfl,⟨rfl,trivial⟩⟩,trivial⟩
def F115 (n:Nat) (z1:Int) (l2:List D) (z3:Int) (l4:List D):Option (Int×Int×ByteArray×Int×Int×Int×List D×List D×List D):=
 bO9 (F53 n z1 l2 (0:Int) (0:Int) ByteArray.empty ([]:List D) (0:Int) ([]:List D) z3 l4) fun z5 z6 s7 z8 z9 z10 l11 l12 l13=>some (z5,z6,s7,z8,z9,z10,l11,l12,l13)
theorem T115 (n:Nat):∀⦃z1:Int⦄ ⦃l2:List D⦄ ⦃z3:Int⦄ ⦃l4:List D⦄ ⦃r1:Int⦄ ⦃r2:Int⦄ ⦃r3:ByteArray⦄ ⦃r4:Int⦄ ⦃r5:Int⦄ ⦃r6:Int⦄ ⦃r7:List D⦄ ⦃r8:List D⦄ ⦃r9:List D⦄,F115 n z1 l2 z3 l4=some (r1,r2,r3,r4,r5,r6,r7,r8,r9)→
    Trip Try.prog inv 115 [.c (.ptr (.ext 0) 0),.d (.int .i64 z1),.d (.list false 1 l2)] [.cells [.ow (.ext 1),.d (.int .i64 z3)],.tree (.fmap true) true 8 l4 none] (.t [.agg [.d (.int .u8 r1),.d (.int .i64 r2),.d (.str r3),.ow (.loc 0),.d (.int .i64 r4),.ow (.loc 1)],.d (.int .u8 r5)]) [.cells [.ow (.ext 1),.d (.int .i64 r6)],.tree (.fmap true) true 8 r7 none] [.tree .row true 6 r8 none,.tree .row false 1 r9 none]:=by
 intro z1 l2 z3 l4 r1 r2 r3 r4 r5 r6 r7 r8 r9 h
 unfold F115 at h
 refine Trip.of tab_ok tab_one fol Try.func115 rfl (by kernel_rfl) rfl rfl rfl (fun M hM hI=>?_)
 try cbv
 refine seq_go ?_
 try cbv
 refine seq_go ?_
 try cbv
 replace h:=bO9_inv h
 obtain⟨z5,z6,s7,z8,z9,z10,l11,l12,l13,hr,h⟩:=h
 refine call_go rfl rfl ?_
 try cbv
 refine call_with hM hI [.ext 0,.ext 1] (T53 _ hr) rfl (by simp) ⟨rfl,⟨rfl,trivial⟩⟩ ⟨trivial,⟨trivial,trivial⟩⟩ (by simp) ?_
 clear hr
 try cbv
 obtain⟨rfl,rfl,rfl,rfl,rfl,rfl,rfl,rfl,rfl⟩:=inj9 h
 refine fin_go ?_
 try cbv
 exact⟨[.loc 192,.loc 193],rfl,rfl,⟨rfl,⟨rfl,trivial⟩⟩,⟨rfl,⟨rfl,trivial⟩⟩,trivial⟩
def L110x1_1:Nat→Int→Int→ByteArray→(List D)→Int→(List D)→(List D)→Int→Int→ByteArray→Int→Int→Int→ByteArray→Int→(List D)→(List D)→Int→Int→ByteArray→Int→Int→(List D)→(List D)→Bool→Option (((Int×Int×ByteArray×List D×Int×List D×Int×List D×Int×Int×ByteArray×Int×Int×Int×ByteArray×Int×List D×List D) ⊕ (Int×Int×ByteArray×List D×Int×List D×Int×List D×Int×Int×ByteArray×Int×Int×Int×ByteArray×Int×List D×List D×List D×List D)))
 | 0,_,_,_,_,_,_,_,_,_,_,_,_,_,_,_,_,_,_,_,_,_,_,_,_,_=>none
 | n+1,z1,z2,s3,l4,z5,l6,l7,z8,z9,s10,z11,z12,z13,s14,z15,l16,l17,z18,z19,s20,z21,z22,l23,l24,b25=>
  (if b25=true then some (.inl (z18,z19,s20,l23,z21,l24,z22,l7,z8,z9,s10,z11,z12,z13,s14,z15,l16,l17))else bO9 (F32 n z1 z2 s3 l4 z5 l6 l7 z12 z13 s14 z15 l16 l17) fun z26 z27 s28 l29 z30 l31 z32 l33 l34=>some (.inr (z26,z27,s28,l29,z30,l31,z32,l7,z18,z19,s20,z21,z12,z13,s14,z15,l33,l34,l23,l24)))
def F110x1 (n:Nat) (z1:Int) (z2:Int) (s3:ByteArray) (l4:List D) (z5:Int) (l6:List D) (l7:List D) (z8:Int) (z9:Int) (s10:ByteArray) (z11:Int) (z12:Int) (z13:Int) (s14:ByteArray) (z15:Int) (l16:List D) (l17:List D):Option (((Int×Int×ByteArray×List D×Int×List D×Int×List D×Int×Int×ByteArray×Int×Int×Int×ByteArray×Int×List D×List D) ⊕ (Int×Int×ByteArray×List D×Int×List D×Int×List D×Int×Int×ByteArray×Int×Int×Int×ByteArray×Int×List D×List D×List D×List D))):=
 bO7 (F30 n z1 z2 s3 l4 z5 l6 l7) fun z18 z19 s20 z21 z22 l23 l24=>(if z22=(0:Int)then L110x1_1 n z1 z2 s3 l4 z5 l6 l7 z8 z9 s10 z11 z12 z13 s14 z15 l16 l17 z18 z19 s20 z21 z22 l23 l24 false else L110x1_1 n z1 z2 s3 l4 z5 l6 l7 z8 z9 s10 z11 z12 z13 s14 z15 l16 l17 z18 z19 s20 z21 z22 l23 l24 true)
theorem T110x1 (n:Nat):∀⦃z1:Int⦄ ⦃z2:Int⦄ ⦃s3:ByteArray⦄ ⦃l4:List D⦄ ⦃z5:Int⦄ ⦃l6:List D⦄ ⦃l7:List D⦄ ⦃z8:Int⦄ ⦃z9:Int⦄ ⦃s10:ByteArray⦄ ⦃z11:Int⦄ ⦃z12:Int⦄ ⦃z13:Int⦄ ⦃s14:ByteArray⦄ ⦃z15:Int⦄ ⦃l16:List D⦄ ⦃l17:List D⦄ ⦃r:((Int×Int×ByteArray×List D×Int×List D×Int×List D×Int×Int×ByteArray×Int×Int×Int×ByteArray×Int×List D×List D) ⊕ (Int×Int×ByteArray×List D×Int×List D×Int×List D×Int×Int×ByteArray×Int×Int×Int×ByteArray×Int×List D×List D×List D×List D))⦄,F110x1 n z1 z2 s3 l4 z5 l6 l7 z8 z9 s10 z11 z12 z13 s14 z15 l16 l17=some r→∀Q:AV→List AObj→List AObj→Prop,(match r with | .inl (r1,r2,r3,r4,r5,r6,r7,r8,r9,r10,r11,r12,r13,r14,r15,r16,r17,r18)=>Q (.t [.d (.agg [.int .u8 r1,.int .i64 r2,.str r3,.list true 6 r4,.int .i64 r5,.list false 1 r6]),.d (.int .u8 r7)]) [.cells [.d (.list false 1 r8)],.cells [.d (.int .u8 r9),.d (.int .i64 r10),.d (.str r11),.nils true 6,.d (.int .i64 r12),.nils false 1],.cells [.d (.int .u8 r13),.d (.int .i64 r14),.d (.str r15),.ow (.ext 3),.d (.int .i64 r16),.ow (.ext 4)],.tree .row true 6 r17 none,.tree .row false 1 r18 none] [] | .inr (r1,r2,r3,r4,r5,r6,r7,r8,r9,r10,r11,r12,r13,r14,r15,r16,r17,r18,r19,r20)=>Q (.t [.d (.agg [.int .u8 r1,.int .i64 r2,.str r3,.list true 6 r4,.int .i64 r5,.list false 1 r6]),.d (.int .u8 r7)]) [.cells [.d (.list false 1 r8)],.cells [.d (.int .u8 r9),.d (.int .i64 r10),.d (.str r11),.ow (.loc 0),.d (.int .i64 r12),.ow (.loc 1)],.cells [.d (.int .u8 r13),.d (.int .i64 r14),.d (.str r15),.ow (.ext 3),.d (.int .i64 r16),.ow (.ext 4)],.tree .row true 6 r17 none,.tree .row false 1 r18 none] [.tree .row true 6 r19 none,.tree .row false 1 r20 none])→
    TripK Try.prog inv 110 [.d (.agg [.int .u8 z1,.int .i64 z2,.str s3,.list true 6 l4,.int .i64 z5,.list false 1 l6]),.c (.ptr (.ext 0) 0),.c (.ptr (.ext 1) 0),.c (.ptr (.ext 2) 0)] [.cells [.d (.list false 1 l7)],.cells [.d (.int .u8 z8),.d (.int .i64 z9),.d (.str s10),.nils true 6,.d (.int .i64 z11),.nils false 1],.cells [.d (.int .u8 z12),.d (.int .i64 z13),.d (.str s14),.ow (.ext 3),.d (.int .i64 z15),.ow (.ext 4)],.tree .row true 6 l16 none,.tree .row false 1 l17 none] Q:=by
 intro z1 z2 s3 l4 z5 l6 l7 z8 z9 s10 z11 z12 z13 s14 z15 l16 l17 r h Q hQ
 unfold F110x1 at h
 refine TripK.of tab_ok tab_one fol Try.func110 rfl (by kernel_rfl) rfl rfl rfl (fun M hM hI=>?_)
 try cbv
 refine seq_go ?_
 try cbv
 refine seq_go ?_
 try cbv
 replace h:=bO7_inv h
 obtain⟨z18,z19,s20,z21,z22,l23,l24,hr,h⟩:=h
 refine call_go rfl rfl ?_
 try cbv
 refine call_with hM hI [] (T30 _ hr) rfl (by simp) trivial trivial (by simp) ?_
 clear hr
 try cbv
 refine seq_go ?_
 try cbv
 refine seq_join (T:=Nat×Bool) (fun t=>⟨[(1,.v (.c (.ptr (.ext 0) 0))),(2,.v (.c (.ptr (.ext 1) 0))),(3,.v (.c (.ptr (.ext 2) 0))),(4,.v (.c (.ptr (.loc 0) 0))),(5,.v (.c (.ptr (.loc 32) 0))),(6,.v (.d (.int .u8 0))),(7,.v (.c (.ptr (.loc 288) 0))),(8,.v (.d (.int .u8 z22))),(16,.v (.d (.bool t.2)))],[(.ext 0,.cells [.d (.list false 1 l7)]),(.ext 1,.cells [.d (.int .u8 z8),.d (.int .i64 z9),.d (.str s10),.nils true 6,.d (.int .i64 z11),.nils false 1]),(.ext 2,.cells [.d (.int .u8 z12),.d (.int .i64 z13),.d (.str s14),.ow (.ext 3),.d (.int .i64 z15),.ow (.ext 4)]),(.ext 3,.tree .row true 6 l16 none),(.ext 4,.tree .row false 1 l17 none),(.loc 0,.cells [.d (.int .u8 z1),.d (.int .i64 z2),.d (.str s3),.d (.list true 6 l4),.d (.int .i64 z5),.d (.list false 1 l6)]),(.loc 32,.cells [.d (.int .u8 0),.d (.int .i64 0),.d (.str ByteArray.empty),.nils true 6,.d (.int .i64 0),.nils false 1]),(.loc 288,.cells [.d (.int .u8 z18),.d (.int .i64 z19),.d (.str s20),.ow (.loc 160),.d (.int .i64 z21),.ow (.loc 161)]),(.loc 160,.tree .row true 6 l23 none),(.loc 161,.tree .row false 1 l24 none)],448⟩) (fun t=>t.1≤n∧L110x1_1 t.1 z1 z2 s3 l4 z5 l6 l7 z8 z9 s10 z11 z12 z13 s14 z15 l16 l17 z18 z19 s20 z21 z22 l23 l24 t.2=some r) ?_ ?_
 ·try cbv
  refine splitI (fun e=>?_) (fun e=>?_)
  ·replace h:=ite_t e h
   clear e
   try cbv
   exact join_next (n,false) [1,2,3,4,5,6,7,8,16] [.ext 0,.ext 1,.ext 2,.ext 3,.ext 4,.loc 0,.loc 32,.loc 288,.loc 160,.loc 161] 448 ⟨by omega,h⟩ (by cbv)
  replace h:=ite_f e h
  clear e
  try cbv
  exact join_next (n,true) [1,2,3,4,5,6,7,8,16] [.ext 0,.ext 1,.ext 2,.ext 3,.ext 4,.loc 0,.loc 32,.loc 288,.loc 160,.loc 161] 448 ⟨by omega,h⟩ (by cbv)
 clear h
 rintro⟨m1,b25⟩ ⟨hm1,h⟩
 replace hm1:m1≤n:=hm1
 obtain _ | m1:=m1
 ·replace h:L110x1_1 0 z1 z2 s3 l4 z5 l6 l7 z8 z9 s10 z11 z12 z13 s14 z15 l16 l17 z18 z19 s20 z21 z22 l23 l24 b25=some r:=h
  rw[L110x1_1]at h
  cases h
 replace h:L110x1_1 (m1+1) z1 z2 s3 l4 z5 l6 l7 z8 z9 s10 z11 z12 z13 s14 z15 l16 l17 z18 z19 s20 z21 z22 l23 l24 b25=some r:=h
 rw[L110x1_1]at h
 try cbv
 cases b25
 ·replace h:=ite_f Bool.false_ne_true h
  try cbv
  refine seq_go ?_
  try cbv
  refine seq_go ?_
  try cbv
  replace h:=bO9_inv h
  obtain⟨z26,z27,s28,l29,z30,l31,z32,l33,l34,hr,h⟩:=h
  refine call_go rfl rfl ?_
  try cbv
  refine call_with hM hI [.ext 3,.ext 4] (T32 _ hr) rfl (by simp) ⟨rfl,⟨rfl,trivial⟩⟩ ⟨trivial,⟨trivial,trivial⟩⟩ (by simp) ?_
  clear hr
  try cbv
  obtain rfl:=Option.some.inj h
  refine finQ_go hQ ?_
  try cbv
  exact⟨[.loc 160,.loc 161],rfl,rfl,⟨rfl,⟨rfl,⟨rfl,⟨rfl,⟨rfl,trivial⟩⟩⟩⟩⟩,⟨rfl,⟨rfl,trivial⟩⟩,trivial⟩
 replace h:=ite_t rfl h
 try cbv
 refine seq_go ?_
 try cbv
 obtain rfl:=Option.some.inj h
 refine⟨_,_,_,hQ,[.freeze (.loc 160),.freeze (.loc 161)],?_⟩
 try cbv
 exact⟨[],rfl,rfl,⟨rfl,⟨rfl,⟨rfl,⟨rfl,⟨rfl,trivial⟩⟩⟩⟩⟩,trivial,trivial⟩
def L109x2_4:Nat→Int→Int→(List D)→Int→Int→ByteArray→Int→Int→Int→ByteArray→Int→(List D)→(List D)→(List D)→(List D)→(List D)→Option (((Int×Int×List D×List D×Int×Int×ByteArray×Int×Int×Int×ByteArray×Int×List D×List D) ⊕ (Int×Int×List D×List D×Int×Int×ByteArray×Int×Int×Int×ByteArray×Int×List D×List D×List D×List D)))
 | 0,_,_,_,_,_,_,_,_,_,_,_,_,_,_,_,_=>none
 | n+1,z22,z65,l66,z67,z68,s69,z70,z71,z72,s73,z74,l75,l76,l83,l84,l87=>
  some (.inr (z65,z22,l87,l66,z67,z68,s69,z70,z71,z72,s73,z74,l75,l76,l83,l84))
def L109x2_3:Nat→Int→Int→(List D)→Int→(List D)→Int→Int→ByteArray→Int→Int→Int→ByteArray→Int→(List D)→(List D)→Int→Int→ByteArray→(List D)→Int→(List D)→(List D)→(List D)→Bool→Option (((Int×Int×List D×List D×Int×Int×ByteArray×Int×Int×Int×ByteArray×Int×List D×List D) ⊕ (Int×Int×List D×List D×Int×Int×ByteArray×Int×Int×Int×ByteArray×Int×List D×List D×List D×List D)))
 | 0,_,_,_,_,_,_,_,_,_,_,_,_,_,_,_,_,_,_,_,_,_,_,_,_=>none
 | n+1,z1,z22,l23,z65,l66,z67,z68,s69,z70,z71,z72,s73,z74,l75,l76,z77,z78,s79,l80,z81,l82,l83,l84,b85=>
  (if b85=true then putF (.int .i64 z1) [.int .u8 z77,.int .i64 z78,.str s79,.list true 6 l80,.int .i64 z81,.list false 1 l82,.bool false] l23 fun l86=>L109x2_4 n z22 z65 l66 z67 z68 s69 z70 z71 z72 s73 z74 l75 l76 l83 l84 l86 else L109x2_4 n z22 z65 l66 z67 z68 s69 z70 z71 z72 s73 z74 l75 l76 l83 l84 l23)
def L109x2_2:Nat→Int→Int→(List D)→Int→(List D)→Int→Int→ByteArray→Int→Int→Int→ByteArray→Int→(List D)→(List D)→Int→Int→ByteArray→(List D)→Int→(List D)→(List D)→(List D)→Option (((Int×Int×List D×List D×Int×Int×ByteArray×Int×Int×Int×ByteArray×Int×List D×List D) ⊕ (Int×Int×List D×List D×Int×Int×ByteArray×Int×Int×Int×ByteArray×Int×List D×List D×List D×List D)))
 | 0,_,_,_,_,_,_,_,_,_,_,_,_,_,_,_,_,_,_,_,_,_,_,_=>none
 | n+1,z1,z22,l23,z65,l66,z67,z68,s69,z70,z71,z72,s73,z74,l75,l76,z77,z78,s79,l80,z81,l82,l83,l84=>
  (if z65=(0:Int)then L109x2_3 n z1 z22 l23 z65 l66 z67 z68 s69 z70 z71 z72 s73 z74 l75 l76 z77 z78 s79 l80 z81 l82 l83 l84 true else L109x2_3 n z1 z22 l23 z65 l66 z67 z68 s69 z70 z71 z72 s73 z74 l75 l76 z77 z78 s79 l80 z81 l82 l83 l84 false)
def L109x2_1:Nat→Int→(List D)→Int→Int→ByteArray→Int→Int→Int→ByteArray→Int→(List D)→(List D)→Int→Int→ByteArray→(List D)→Int→(List D)→Int→Int→(List D)→Bool→Option (((Int×Int×List D×List D×Int×Int×ByteArray×Int×Int×Int×ByteArray×Int×List D×List D) ⊕ (Int×Int×List D×List D×Int×Int×ByteArray×Int×Int×Int×ByteArray×Int×List D×List D×List D×List D)))
 | 0,_,_,_,_,_,_,_,_,_,_,_,_,_,_,_,_,_,_,_,_,_,_=>none
 | n+1,z1,l4,z5,z6,s7,z8,z9,z10,s11,z12,l13,l14,z15,z16,s17,l18,z19,l20,z21,z22,l23,b24=>
  (if b24=true then some (.inl (z21,z22,l23,l4,z5,z6,s7,z8,z9,z10,s11,z12,l13,l14))else bS (F110x1 n z15 z16 s17 l18 z19 l20 l4 z5 z6 s7 z8 z9 z10 s11 z12 l13 l14) (fun p63=>bO18 (some p63) fun z25 z26 s27 l28 z29 l30 z31 l32 z33 z34 s35 z36 z37 z38 s39 z40 l41 l42=>L109x2_2 n z1 z22 l23 z31 l32 z33 z34 s35 z36 z37 z38 s39 z40 l41 l42 z25 z26 s27 l28 z29 l30 ([]:List D) ([]:List D)) (fun p64=>bO20 (some p64) fun z43 z44 s45 l46 z47 l48 z49 l50 z51 z52 s53 z54 z55 z56 s57 z58 l59 l60 l61 l62=>L109x2_2 n z1 z22 l23 z49 l50 z51 z52 s53 z54 z55 z56 s57 z58 l59 l60 z43 z44 s45 l46 z47 l48 l61 l62))
def F109x2 (n:Nat) (z1:Int) (z2:Int) (l3:List D) (l4:List D) (z5:Int) (z6:Int) (s7:ByteArray) (z8:Int) (z9:Int) (z10:Int) (s11:ByteArray) (z12:Int) (l13:List D) (l14:List D):Option (((Int×Int×List D×List D×Int×Int×ByteArray×Int×Int×Int×ByteArray×Int×List D×List D) ⊕ (Int×Int×List D×List D×Int×Int×ByteArray×Int×Int×Int×ByteArray×Int×List D×List D×List D×List D))):=
 bO9 (F108 n z1 z2 l3) fun z15 z16 s17 l18 z19 l20 z21 z22 l23=>(if z21=(0:Int)then L109x2_1 n z1 l4 z5 z6 s7 z8 z9 z10 s11 z12 l13 l14 z15 z16 s17 l18 z19 l20 z21 z22 l23 false else L109x2_1 n z1 l4 z5 z6 s7 z8 z9 z10 s11 z12 l13 l14 z15 z16 s17 l18 z19 l20 z21 z22 l23 true)
theorem T109x2 (n:Nat):∀⦃z1:Int⦄ ⦃z2:Int⦄ ⦃l3:List D⦄ ⦃l4:List D⦄ ⦃z5:Int⦄ ⦃z6:Int⦄ ⦃s7:ByteArray⦄ ⦃z8:Int⦄ ⦃z9:Int⦄ ⦃z10:Int⦄ ⦃s11:ByteArray⦄ ⦃z12:Int⦄ ⦃l13:List D⦄ ⦃l14:List D⦄ ⦃r:((Int×Int×List D×List D×Int×Int×ByteArray×Int×Int×Int×ByteArray×Int×List D×List D) ⊕ (Int×Int×List D×List D×Int×Int×ByteArray×Int×Int×Int×ByteArray×Int×List D×List D×List D×List D))⦄,F109x2 n z1 z2 l3 l4 z5 z6 s7 z8 z9 z10 s11 z12 l13 l14=some r→∀Q:AV→List AObj→List AObj→Prop,(match r with | .inl (r1,r2,r3,r4,r5,r6,r7,r8,r9,r10,r11,r12,r13,r14)=>Q (.v (.d (.int .u8 r1))) [.cells [.ow (.ext 1),.d (.int .i64 r2)],.tree (.fmap true) true 8 r3 none,.cells [.d (.list false 1 r4)],.cells [.d (.int .u8 r5),.d (.int .i64 r6),.d (.str r7),.nils true 6,.d (.int .i64 r8),.nils false 1],.cells [.d (.int .u8 r9),.d (.int .i64 r10),.d (.str r11),.ow (.ext 5),.d (.int .i64 r12),.ow (.ext 6)],.tree .row true 6 r13 none,.tree .row false 1 r14 none] [] | .inr (r1,r2,r3,r4,r5,r6,r7,r8,r9,r10,r11,r12,r13,r14,r15,r16)=>Q (.v (.d (.int .u8 r1))) [.cells [.ow (.ext 1),.d (.int .i64 r2)],.tree (.fmap true) true 8 r3 none,.cells [.d (.list false 1 r4)],.cells [.d (.int .u8 r5),.d (.int .i64 r6),.d (.str r7),.ow (.loc 0),.d (.int .i64 r8),.ow (.loc 1)],.cells [.d (.int .u8 r9),.d (.int .i64 r10),.d (.str r11),.ow (.ext 5),.d (.int .i64 r12),.ow (.ext 6)],.tree .row true 6 r13 none,.tree .row false 1 r14 none] [.tree .row true 6 r15 none,.tree .row false 1 r16 none])→
    TripK Try.prog inv 109 [.c (.ptr (.ext 0) 0),.d (.int .i64 z1),.c (.fn 110 [.ext 2,.ext 3,.ext 4])] [.cells [.ow (.ext 1),.d (.int .i64 z2)],.tree (.fmap true) true 8 l3 none,.cells [.d (.list false 1 l4)],.cells [.d (.int .u8 z5),.d (.int .i64 z6),.d (.str s7),.nils true 6,.d (.int .i64 z8),.nils false 1],.cells [.d (.int .u8 z9),.d (.int .i64 z10),.d (.str s11),.ow (.ext 5),.d (.int .i64 z12),.ow (.ext 6)],.tree .row true 6 l13 none,.tree .row false 1 l14 none] Q:=by
 intro z1 z2 l3 l4 z5 z6 s7 z8 z9 z10 s11 z12 l13 l14 r h Q hQ
 unfold F109x2 at h
 refine TripK.of tab_ok tab_one fol Try.func109 rfl (by kernel_rfl) rfl rfl rfl (fun M hM hI=>?_)
 try cbv
 refine seq_go ?_
 try cbv
 refine seq_go ?_
 try cbv
 replace h:=bO9_inv h
 obtain⟨z15,z16,s17,l18,z19,l20,z21,z22,l23,hr,h⟩:=h
 refine call_go rfl rfl ?_
 try cbv
 refine call_with hM hI [.ext 0,.ext 1] (T108 _ hr) rfl (by simp) ⟨rfl,⟨rfl,trivial⟩⟩ ⟨trivial,⟨trivial,trivial⟩⟩ (by simp) ?_
 clear hr
 try cbv
 refine seq_go ?_
 try cbv
 refine seq_join (T:=Nat×Bool) (fun t=>⟨[(0,.v (.c (.ptr (.ext 0) 0))),(1,.v (.d (.int .i64 z1))),(2,.v (.c (.fn 110 [.ext 2,.ext 3,.ext 4]))),(6,.v (.d (.int .u8 0))),(7,.v (.c (.ptr (.loc 224) 0))),(8,.v (.d (.int .u8 z21))),(17,.v (.d (.bool t.2)))],[(.ext 0,.cells [.ow (.ext 1),.d (.int .i64 z22)]),(.ext 1,.tree (.fmap true) true 8 l23 none),(.ext 2,.cells [.d (.list false 1 l4)]),(.ext 3,.cells [.d (.int .u8 z5),.d (.int .i64 z6),.d (.str s7),.nils true 6,.d (.int .i64 z8),.nils false 1]),(.ext 4,.cells [.d (.int .u8 z9),.d (.int .i64 z10),.d (.str s11),.ow (.ext 5),.d (.int .i64 z12),.ow (.ext 6)]),(.ext 5,.tree .row true 6 l13 none),(.ext 6,.tree .row false 1 l14 none),(.loc 224,.cells [.d (.int .u8 z15),.d (.int .i64 z16),.d (.str s17),.d (.list true 6 l18),.d (.int .i64 z19),.d (.list false 1 l20)])],384⟩) (fun t=>t.1≤n∧L109x2_1 t.1 z1 l4 z5 z6 s7 z8 z9 z10 s11 z12 l13 l14 z15 z16 s17 l18 z19 l20 z21 z22 l23 t.2=some r) ?_ ?_
 ·try cbv
  refine splitI (fun e=>?_) (fun e=>?_)
  ·replace h:=ite_t e h
   clear e
   try cbv
   exact join_next (n,false) [0,1,2,6,7,8,17] [.ext 0,.ext 1,.ext 2,.ext 3,.ext 4,.ext 5,.ext 6,.loc 224] 384 ⟨by omega,h⟩ (by cbv)
  replace h:=ite_f e h
  clear e
  try cbv
  exact join_next (n,true) [0,1,2,6,7,8,17] [.ext 0,.ext 1,.ext 2,.ext 3,.ext 4,.ext 5,.ext 6,.loc 224] 384 ⟨by omega,h⟩ (by cbv)
 clear h
 rintro⟨m1,b24⟩ ⟨hm1,h⟩
 replace hm1:m1≤n:=hm1
 obtain _ | m1:=m1
 ·replace h:L109x2_1 0 z1 l4 z5 z6 s7 z8 z9 z10 s11 z12 l13 l14 z15 z16 s17 l18 z19 l20 z21 z22 l23 b24=some r:=h
  rw[L109x2_1]at h
  cases h
 replace h:L109x2_1 (m1+1) z1 l4 z5 z6 s7 z8 z9 z10 s11 z12 l13 l14 z15 z16 s17 l18 z19 l20 z21 z22 l23 b24=some r:=h
 rw[L109x2_1]at h
 try cbv
 cases b24
 rotate_left
 ·replace h:=ite_t rfl h
  try cbv
  refine seq_go ?_
  try cbv
  obtain rfl:=Option.some.inj h
  refine finQ_go hQ ?_
  try cbv
  exact⟨[],rfl,rfl,⟨rfl,⟨rfl,⟨rfl,⟨rfl,⟨rfl,⟨rfl,⟨rfl,trivial⟩⟩⟩⟩⟩⟩⟩,trivial,trivial⟩
 replace h:=ite_f Bool.false_ne_true h
 try cbv
 refine seq_join (T:=Nat×Int×List D×Int×Int×ByteArray×Int×Int×Int×ByteArray×Int×List D×List D×Int×Int×ByteArray×List D×Int×List D×List D×List D) (fun t=>⟨[(0,.v (.c (.ptr (.ext 0) 0))),(1,.v (.d (.int .i64 z1))),(6,.v (.d (.int .u8 0))),(8,.v (.d (.int .u8 t.2.1))),(9,.v (.c (.ptr (.loc 576) 0)))],[(.ext 0,.cells [.ow (.ext 1),.d (.int .i64 z22)]),(.ext 1,.tree (.fmap true) true 8 l23 none),(.ext 2,.cells [.d (.list false 1 t.2.2.1)]),(.ext 3,.cells [.d (.int .u8 t.2.2.2.1),.d (.int .i64 t.2.2.2.2.1),.d (.str t.2.2.2.2.2.1),.ow (.loc 672),.d (.int .i64 t.2.2.2.2.2.2.1),.ow (.loc 704)]),(.ext 4,.cells [.d (.int .u8 t.2.2.2.2.2.2.2.1),.d (.int .i64 t.2.2.2.2.2.2.2.2.1),.d (.str t.2.2.2.2.2.2.2.2.2.1),.ow (.ext 5),.d (.int .i64 t.2.2.2.2.2.2.2.2.2.2.1),.ow (.ext 6)]),(.ext 5,.tree .row true 6 t.2.2.2.2.2.2.2.2.2.2.2.1 none),(.ext 6,.tree .row false 1 t.2.2.2.2.2.2.2.2.2.2.2.2.1 none),(.loc 576,.cells [.d (.int .u8 t.2.2.2.2.2.2.2.2.2.2.2.2.2.1),.d (.int .i64 t.2.2.2.2.2.2.2.2.2.2.2.2.2.2.1),.d (.str t.2.2.2.2.2.2.2.2.2.2.2.2.2.2.2.1),.d (.list true 6 t.2.2.2.2.2.2.2.2.2.2.2.2.2.2.2.2.1),.d (.int .i64 t.2.2.2.2.2.2.2.2.2.2.2.2.2.2.2.2.2.1),.d (.list false 1 t.2.2.2.2.2.2.2.2.2.2.2.2.2.2.2.2.2.2.1)]),(.loc 672,.tree .row true 6 t.2.2.2.2.2.2.2.2.2.2.2.2.2.2.2.2.2.2.2.1 none),(.loc 704,.tree .row false 1 t.2.2.2.2.2.2.2.2.2.2.2.2.2.2.2.2.2.2.2.2 none)],736⟩) (fun t=>t.1≤m1∧L109x2_2 t.1 z1 z22 l23 t.2.1 t.2.2.1 t.2.2.2.1 t.2.2.2.2.1 t.2.2.2.2.2.1 t.2.2.2.2.2.2.1 t.2.2.2.2.2.2.2.1 t.2.2.2.2.2.2.2.2.1 t.2.2.2.2.2.2.2.2.2.1 t.2.2.2.2.2.2.2.2.2.2.1 t.2.2.2.2.2.2.2.2.2.2.2.1 t.2.2.2.2.2.2.2.2.2.2.2.2.1 t.2.2.2.2.2.2.2.2.2.2.2.2.2.1 t.2.2.2.2.2.2.2.2.2.2.2.2.2.2.1 t.2.2.2.2.2.2.2.2.2.2.2.2.2.2.2.1 t.2.2.2.2.2.2.2.2.2.2.2.2.2.2.2.2.1 t.2.2.2.2.2.2.2.2.2.2.2.2.2.2.2.2.2.1 t.2.2.2.2.2.2.2.2.2.2.2.2.2.2.2.2.2.2.1 t.2.2.2.2.2.2.2.2.2.2.2.2.2.2.2.2.2.2.2.1 t.2.2.2.2.2.2.2.2.2.2.2.2.2.2.2.2.2.2.2.2=some r) ?_ ?_
 ·try cbv
  replace h:=bS_inv h
  rcases h with⟨p63,hr,h⟩ | ⟨p64,hr,h⟩
  ·replace h:=bO18_inv h
   obtain⟨z25,z26,s27,l28,z29,l30,z31,l32,z33,z34,s35,z36,z37,z38,s39,z40,l41,l42,hp,h⟩:=h
   obtain rfl:=Option.some.inj hp
   clear hp
   refine call_go rfl rfl ?_
   try cbv
   refine call_with hM hI [.ext 2,.ext 3,.ext 4,.ext 5,.ext 6] (T110x1 _ hr (fun r p n=>r= .t [.d (.agg [.int .u8 z25,.int .i64 z26,.str s27,.list true 6 l28,.int .i64 z29,.list false 1 l30]),.d (.int .u8 z31)]∧p=[.cells [.d (.list false 1 l32)],.cells [.d (.int .u8 z33),.d (.int .i64 z34),.d (.str s35),.nils true 6,.d (.int .i64 z36),.nils false 1],.cells [.d (.int .u8 z37),.d (.int .i64 z38),.d (.str s39),.ow (.ext 3),.d (.int .i64 z40),.ow (.ext 4)],.tree .row true 6 l41 none,.tree .row false 1 l42 none]∧n=[]) ⟨rfl,rfl,rfl⟩:Trip _ _ _ _ _ (.t [.d (.agg [.int .u8 z25,.int .i64 z26,.str s27,.list true 6 l28,.int .i64 z29,.list false 1 l30]),.d (.int .u8 z31)]) [.cells [.d (.list false 1 l32)],.cells [.d (.int .u8 z33),.d (.int .i64 z34),.d (.str s35),.nils true 6,.d (.int .i64 z36),.nils false 1],.cells [.d (.int .u8 z37),.d (.int .i64 z38),.d (.str s39),.ow (.ext 3),.d (.int .i64 z40),.ow (.ext 4)],.tree .row true 6 l41 none,.tree .row false 1 l42 none] []) rfl (by simp) ⟨rfl,⟨rfl,⟨rfl,⟨rfl,⟨rfl,trivial⟩⟩⟩⟩⟩ ⟨trivial,⟨trivial,⟨trivial,⟨trivial,⟨trivial,trivial⟩⟩⟩⟩⟩ (by simp) ?_
   clear hr
   try cbv
   refine join_nextG (m1,(z31,l32,z33,z34,s35,z36,z37,z38,s39,z40,l41,l42,z25,z26,s27,l28,z29,l30,([]:List D),([]:List D))) [.treeC (.ext 3) 3 true 6,.treeC (.ext 3) 5 false 1] [] [0,1,6,8,9] [.ext 0,.ext 1,.ext 2,.ext 3,.ext 4,.ext 5,.ext 6,.loc 576,.loc 672,.loc 704] 736 ⟨by omega,h⟩ ?_
   try cbv
   first | done | exact rfl | cbv
  replace h:=bO20_inv h
  obtain⟨z43,z44,s45,l46,z47,l48,z49,l50,z51,z52,s53,z54,z55,z56,s57,z58,l59,l60,l61,l62,hp,h⟩:=h
  obtain rfl:=Option.some.inj hp
  clear hp
  refine call_go rfl rfl ?_
  try cbv
  refine call_with hM hI [.ext 2,.ext 3,.ext 4,.ext 5,.ext 6] (T110x1 _ hr (fun r p n=>r= .t [.d (.agg [.int .u8 z43,.int .i64 z44,.str s45,.list true 6 l46,.int .i64 z47,.list false 1 l48]),.d (.int .u8 z49)]∧p=[.cells [.d (.list false 1 l50)],.cells [.d (.int .u8 z51),.d (.int .i64 z52),.d (.str s53),.ow (.loc 0),.d (.int .i64 z54),.ow (.loc 1)],.cells [.d (.int .u8 z55),.d (.int .i64 z56),.d (.str s57),.ow (.ext 3),.d (.int .i64 z58),.ow (.ext 4)],.tree .row true 6 l59 none,.tree .row false 1 l60 none]∧n=[.tree .row true 6 l61 none,.tree .row false 1 l62 none]) ⟨rfl,rfl,rfl⟩:Trip _ _ _ _ _ (.t [.d (.agg [.int .u8 z43,.int .i64 z44,.str s45,.list true 6 l46,.int .i64 z47,.list false 1 l48]),.d (.int .u8 z49)]) [.cells [.d (.list false 1 l50)],.cells [.d (.int .u8 z51),.d (.int .i64 z52),.d (.str s53),.ow (.loc 0),.d (.int .i64 z54),.ow (.loc 1)],.cells [.d (.int .u8 z55),.d (.int .i64 z56),.d (.str s57),.ow (.ext 3),.d (.int .i64 z58),.ow (.ext 4)],.tree .row true 6 l59 none,.tree .row false 1 l60 none] [.tree .row true 6 l61 none,.tree .row false 1 l62 none]) rfl (by simp) ⟨rfl,⟨rfl,⟨rfl,⟨rfl,⟨rfl,trivial⟩⟩⟩⟩⟩ ⟨trivial,⟨trivial,⟨trivial,⟨trivial,⟨trivial,trivial⟩⟩⟩⟩⟩ (by simp) ?_
  clear hr
  try cbv
  refine join_nextG (m1,(z49,l50,z51,z52,s53,z54,z55,z56,s57,z58,l59,l60,z43,z44,s45,l46,z47,l48,l61,l62)) [] [(448,672),(449,704)] [0,1,6,8,9] [.ext 0,.ext 1,.ext 2,.ext 3,.ext 4,.ext 5,.ext 6,.loc 576,.loc 448,.loc 449] 736 ⟨by omega,h⟩ ?_
  try cbv
  first | done | exact rfl | cbv
 clear h
 rintro⟨m2,z65,l66,z67,z68,s69,z70,z71,z72,s73,z74,l75,l76,z77,z78,s79,l80,z81,l82,l83,l84⟩ ⟨hm2,h⟩
 replace hm2:m2≤m1:=hm2
 obtain _ | m2:=m2
 ·replace h:L109x2_2 0 z1 z22 l23 z65 l66 z67 z68 s69 z70 z71 z72 s73 z74 l75 l76 z77 z78 s79 l80 z81 l82 l83 l84=some r:=h
  rw[L109x2_2]at h
  cases h
 replace h:L109x2_2 (m2+1) z1 z22 l23 z65 l66 z67 z68 s69 z70 z71 z72 s73 z74 l75 l76 z77 z78 s79 l80 z81 l82 l83 l84=some r:=h
 rw[L109x2_2]at h
 try cbv
 refine seq_join (T:=Nat×List D) (fun t=>⟨[(6,.v (.d (.int .u8 0))),(8,.v (.d (.int .u8 z65)))],[(.ext 0,.cells [.ow (.ext 1),.d (.int .i64 z22)]),(.ext 1,.tree (.fmap true) true 8 t.2 none),(.ext 2,.cells [.d (.list false 1 l66)]),(.ext 3,.cells [.d (.int .u8 z67),.d (.int .i64 z68),.d (.str s69),.ow (.loc 672),.d (.int .i64 z70),.ow (.loc 704)]),(.ext 4,.cells [.d (.int .u8 z71),.d (.int .i64 z72),.d (.str s73),.ow (.ext 5),.d (.int .i64 z74),.ow (.ext 6)]),(.ext 5,.tree .row true 6 l75 none),(.ext 6,.tree .row false 1 l76 none),(.loc 672,.tree .row true 6 l83 none),(.loc 704,.tree .row false 1 l84 none)],1056⟩) (fun t=>t.1≤m2∧L109x2_4 t.1 z22 z65 l66 z67 z68 s69 z70 z71 z72 s73 z74 l75 l76 l83 l84 t.2=some r) ?_ ?_
 rotate_left
 ·clear h
  rintro⟨m4,l87⟩ ⟨hm4,h⟩
  replace hm4:m4≤m2:=hm4
  obtain _ | m4:=m4
  ·replace h:L109x2_4 0 z22 z65 l66 z67 z68 s69 z70 z71 z72 s73 z74 l75 l76 l83 l84 l87=some r:=h
   rw[L109x2_4]at h
   cases h
  replace h:L109x2_4 (m4+1) z22 z65 l66 z67 z68 s69 z70 z71 z72 s73 z74 l75 l76 l83 l84 l87=some r:=h
  rw[L109x2_4]at h
  try cbv
  refine seq_go ?_
  try cbv
  obtain rfl:=Option.some.inj h
  refine finQ_go hQ ?_
  try cbv
  exact⟨[.loc 672,.loc 704],rfl,rfl,⟨rfl,⟨rfl,⟨rfl,⟨rfl,⟨rfl,⟨rfl,⟨rfl,trivial⟩⟩⟩⟩⟩⟩⟩,⟨rfl,⟨rfl,trivial⟩⟩,trivial⟩
 try cbv
 refine seq_join (T:=Nat×Bool) (fun t=>⟨[(0,.v (.c (.ptr (.ext 0) 0))),(1,.v (.d (.int .i64 z1))),(6,.v (.d (.int .u8 0))),(8,.v (.d (.int .u8 z65))),(9,.v (.c (.ptr (.loc 576) 0))),(26,.v (.d (.bool t.2)))],[(.ext 0,.cells [.ow (.ext 1),.d (.int .i64 z22)]),(.ext 1,.tree (.fmap true) true 8 l23 none),(.ext 2,.cells [.d (.list false 1 l66)]),(.ext 3,.cells [.d (.int .u8 z67),.d (.int .i64 z68),.d (.str s69),.ow (.loc 672),.d (.int .i64 z70),.ow (.loc 704)]),(.ext 4,.cells [.d (.int .u8 z71),.d (.int .i64 z72),.d (.str s73),.ow (.ext 5),.d (.int .i64 z74),.ow (.ext 6)]),(.ext 5,.tree .row true 6 l75 none),(.ext 6,.tree .row false 1 l76 none),(.loc 576,.cells [.d (.int .u8 z77),.d (.int .i64 z78),.d (.str s79),.d (.list true 6 l80),.d (.int .i64 z81),.d (.list false 1 l82)]),(.loc 672,.tree .row true 6 l83 none),(.loc 704,.tree .row false 1 l84 none)],800⟩) (fun t=>t.1≤m2∧L109x2_3 t.1 z1 z22 l23 z65 l66 z67 z68 s69 z70 z71 z72 s73 z74 l75 l76 z77 z78 s79 l80 z81 l82 l83 l84 t.2=some r) ?_ ?_
 ·try cbv
  refine splitI (fun e=>?_) (fun e=>?_)
  ·replace h:=ite_t e h
   clear e
   try cbv
   exact join_next (m2,true) [0,1,6,8,9,26] [.ext 0,.ext 1,.ext 2,.ext 3,.ext 4,.ext 5,.ext 6,.loc 576,.loc 672,.loc 704] 800 ⟨by omega,h⟩ (by cbv)
  replace h:=ite_f e h
  clear e
  try cbv
  exact join_next (m2,false) [0,1,6,8,9,26] [.ext 0,.ext 1,.ext 2,.ext 3,.ext 4,.ext 5,.ext 6,.loc 576,.loc 672,.loc 704] 800 ⟨by omega,h⟩ (by cbv)
 clear h
 rintro⟨m3,b85⟩ ⟨hm3,h⟩
 replace hm3:m3≤m2:=hm3
 obtain _ | m3:=m3
 ·replace h:L109x2_3 0 z1 z22 l23 z65 l66 z67 z68 s69 z70 z71 z72 s73 z74 l75 l76 z77 z78 s79 l80 z81 l82 l83 l84 b85=some r:=h
  rw[L109x2_3]at h
  cases h
 replace h:L109x2_3 (m3+1) z1 z22 l23 z65 l66 z67 z68 s69 z70 z71 z72 s73 z74 l75 l76 z77 z78 s79 l80 z81 l82 l83 l84 b85=some r:=h
 rw[L109x2_3]at h
 try cbv
 cases b85
 ·replace h:=ite_f Bool.false_ne_true h
  try cbv
  exact join_next (m3,l23) [6,8] [.ext 0,.ext 1,.ext 2,.ext 3,.ext 4,.ext 5,.ext 6,.loc 672,.loc 704] 1056 ⟨by omega,h⟩ (by cbv)
 replace h:=ite_t rfl h
 try cbv
 replace h:=putF_inv h
 obtain⟨l86,hz,h⟩:=h
 refine⟨l86,(M.lock_iff _).2 hz,?_⟩
 clear hz
 try cbv
 refine drawn ?_ ?_
 ·show _=true
  kernel_rfl
 try cbv
 exact join_next (m3,l86) [6,8] [.ext 0,.ext 1,.ext 2,.ext 3,.ext 4,.ext 5,.ext 6,.loc 672,.loc 704] 1056 ⟨by omega,h⟩ (by cbv)
def L53x1_1:Nat→Int→Int→(List D)→(List D)→(List D)→Int→Int→ByteArray→Int→(List D)→(List D)→Option (Int×Int×ByteArray×Int×Int×Int×List D×List D×List D×List D×List D)
 | 0,_,_,_,_,_,_,_,_,_,_,_=>none
 | n+1,z43,z44,l45,l46,l47,z48,z49,s50,z51,l52,l53=>
  some (z48,z49,s50,z51,z43,z44,l45,l46,l47,l52,l53)
def F53x1 (n:Nat) (z1:Int) (l2:List D) (z3:Int) (z4:Int) (s5:ByteArray) (z6:Int) (z7:Int) (l8:List D) (l9:List D) (l10:List D):Option (Int×Int×ByteArray×Int×Int×Int×List D×List D×List D×List D×List D):=
 bS (F109x2 n z1 z7 l8 l2 (0:Int) (0:Int) ByteArray.empty (0:Int) z3 z4 s5 z6 l9 l10) (fun p41=>bO14 (some p41) fun z11 z12 l13 l14 z15 z16 s17 z18 z19 z20 s21 z22 l23 l24=>L53x1_1 n z11 z12 l13 l23 l24 z15 z16 s17 z18 ([]:List D) ([]:List D)) (fun p42=>bO16 (some p42) fun z25 z26 l27 l28 z29 z30 s31 z32 z33 z34 s35 z36 l37 l38 l39 l40=>L53x1_1 n z25 z26 l27 l37 l38 z29 z30 s31 z32 l39 l40)
theorem T53x1 (n:Nat):∀⦃z1:Int⦄ ⦃l2:List D⦄ ⦃z3:Int⦄ ⦃z4:Int⦄ ⦃s5:ByteArray⦄ ⦃z6:Int⦄ ⦃z7:Int⦄ ⦃l8:List D⦄ ⦃l9:List D⦄ ⦃l10:List D⦄ ⦃r1:Int⦄ ⦃r2:Int⦄ ⦃r3:ByteArray⦄ ⦃r4:Int⦄ ⦃r5:Int⦄ ⦃r6:Int⦄ ⦃r7:List D⦄ ⦃r8:List D⦄ ⦃r9:List D⦄ ⦃r10:List D⦄ ⦃r11:List D⦄,F53x1 n z1 l2 z3 z4 s5 z6 z7 l8 l9 l10=some (r1,r2,r3,r4,r5,r6,r7,r8,r9,r10,r11)→
    Trip Try.prog inv 53 [.c (.ptr (.ext 0) 0),.d (.int .i64 z1),.d (.list false 1 l2),.agg [.d (.int .u8 z3),.d (.int .i64 z4),.d (.str s5),.ow (.ext 2),.d (.int .i64 z6),.ow (.ext 3)]] [.cells [.ow (.ext 1),.d (.int .i64 z7)],.tree (.fmap true) true 8 l8 none,.tree .row true 6 l9 none,.tree .row false 1 l10 none] (.t [.agg [.d (.int .u8 r1),.d (.int .i64 r2),.d (.str r3),.ow (.loc 0),.d (.int .i64 r4),.ow (.loc 1)],.d (.int .u8 r5)]) [.cells [.ow (.ext 1),.d (.int .i64 r6)],.tree (.fmap true) true 8 r7 none,.tree .row true 6 r8 none,.tree .row false 1 r9 none] [.tree .row true 6 r10 none,.tree .row false 1 r11 none]:=by
 intro z1 l2 z3 z4 s5 z6 z7 l8 l9 l10 r1 r2 r3 r4 r5 r6 r7 r8 r9 r10 r11 h
 unfold F53x1 at h
 refine Trip.of tab_ok tab_one fol Try.func53 rfl (by kernel_rfl) rfl rfl rfl (fun M hM hI=>?_)
 try cbv
 refine seq_go ?_
 try cbv
 refine seq_go ?_
 try cbv
 refine seq_join (T:=Nat×Int×Int×List D×List D×List D×Int×Int×ByteArray×Int×List D×List D) (fun t=>⟨[(8,.v (.c (.ptr (.loc 64) 0))),(9,.v (.d (.int .u8 0))),(10,.v (.c (.ptr (.loc 128) 0))),(11,.v (.d (.int .u8 t.2.1)))],[(.ext 0,.cells [.ow (.ext 1),.d (.int .i64 t.2.2.1)]),(.ext 1,.tree (.fmap true) true 8 t.2.2.2.1 none),(.ext 2,.tree .row true 6 t.2.2.2.2.1 none),(.ext 3,.tree .row false 1 t.2.2.2.2.2.1 none),(.loc 64,.cells [.d (.int .u8 0),.d (.int .i64 0),.d (.str ByteArray.empty),.nils true 6,.d (.int .i64 0),.nils false 1]),(.loc 128,.cells [.d (.int .u8 t.2.2.2.2.2.2.1),.d (.int .i64 t.2.2.2.2.2.2.2.1),.d (.str t.2.2.2.2.2.2.2.2.1),.ow (.loc 320),.d (.int .i64 t.2.2.2.2.2.2.2.2.2.1),.ow (.loc 352)]),(.loc 320,.tree .row true 6 t.2.2.2.2.2.2.2.2.2.2.1 none),(.loc 352,.tree .row false 1 t.2.2.2.2.2.2.2.2.2.2.2 none)],384⟩) (fun t=>t.1≤n∧L53x1_1 t.1 t.2.1 t.2.2.1 t.2.2.2.1 t.2.2.2.2.1 t.2.2.2.2.2.1 t.2.2.2.2.2.2.1 t.2.2.2.2.2.2.2.1 t.2.2.2.2.2.2.2.2.1 t.2.2.2.2.2.2.2.2.2.1 t.2.2.2.2.2.2.2.2.2.2.1 t.2.2.2.2.2.2.2.2.2.2.2=some (r1,r2,r3,r4,r5,r6,r7,r8,r9,r10,r11)) ?_ ?_
 ·try cbv
  replace h:=bS_inv h
  rcases h with⟨p41,hr,h⟩ | ⟨p42,hr,h⟩
  ·replace h:=bO14_inv h
   obtain⟨z11,z12,l13,l14,z15,z16,s17,z18,z19,z20,s21,z22,l23,l24,hp,h⟩:=h
   obtain rfl:=Option.some.inj hp
   clear hp
   refine call_go rfl rfl ?_
   try cbv
   refine call_with hM hI [.ext 0,.ext 1,.loc 0,.loc 128,.loc 32,.ext 2,.ext 3] (T109x2 _ hr (fun r p n=>r= .v (.d (.int .u8 z11))∧p=[.cells [.ow (.ext 1),.d (.int .i64 z12)],.tree (.fmap true) true 8 l13 none,.cells [.d (.list false 1 l14)],.cells [.d (.int .u8 z15),.d (.int .i64 z16),.d (.str s17),.nils true 6,.d (.int .i64 z18),.nils false 1],.cells [.d (.int .u8 z19),.d (.int .i64 z20),.d (.str s21),.ow (.ext 5),.d (.int .i64 z22),.ow (.ext 6)],.tree .row true 6 l23 none,.tree .row false 1 l24 none]∧n=[]) ⟨rfl,rfl,rfl⟩:Trip _ _ _ _ _ (.v (.d (.int .u8 z11))) [.cells [.ow (.ext 1),.d (.int .i64 z12)],.tree (.fmap true) true 8 l13 none,.cells [.d (.list false 1 l14)],.cells [.d (.int .u8 z15),.d (.int .i64 z16),.d (.str s17),.nils true 6,.d (.int .i64 z18),.nils false 1],.cells [.d (.int .u8 z19),.d (.int .i64 z20),.d (.str s21),.ow (.ext 5),.d (.int .i64 z22),.ow (.ext 6)],.tree .row true 6 l23 none,.tree .row false 1 l24 none] []) rfl (by simp) ⟨rfl,⟨rfl,⟨rfl,⟨rfl,⟨rfl,⟨rfl,⟨rfl,trivial⟩⟩⟩⟩⟩⟩⟩ ⟨trivial,⟨trivial,⟨trivial,⟨trivial,⟨trivial,⟨trivial,⟨trivial,trivial⟩⟩⟩⟩⟩⟩⟩ (by simp) ?_
   clear hr
   try cbv
   refine join_nextG (n,(z11,z12,l13,l23,l24,z15,z16,s17,z18,([]:List D),([]:List D))) [.treeC (.loc 128) 3 true 6,.treeC (.loc 128) 5 false 1] [] [8,9,10,11] [.ext 0,.ext 1,.ext 2,.ext 3,.loc 64,.loc 128,.loc 320,.loc 352] 384 ⟨by omega,h⟩ ?_
   try cbv
   first | done | exact rfl | cbv
  replace h:=bO16_inv h
  obtain⟨z25,z26,l27,l28,z29,z30,s31,z32,z33,z34,s35,z36,l37,l38,l39,l40,hp,h⟩:=h
  obtain rfl:=Option.some.inj hp
  clear hp
  refine call_go rfl rfl ?_
  try cbv
  refine call_with hM hI [.ext 0,.ext 1,.loc 0,.loc 128,.loc 32,.ext 2,.ext 3] (T109x2 _ hr (fun r p n=>r= .v (.d (.int .u8 z25))∧p=[.cells [.ow (.ext 1),.d (.int .i64 z26)],.tree (.fmap true) true 8 l27 none,.cells [.d (.list false 1 l28)],.cells [.d (.int .u8 z29),.d (.int .i64 z30),.d (.str s31),.ow (.loc 0),.d (.int .i64 z32),.ow (.loc 1)],.cells [.d (.int .u8 z33),.d (.int .i64 z34),.d (.str s35),.ow (.ext 5),.d (.int .i64 z36),.ow (.ext 6)],.tree .row true 6 l37 none,.tree .row false 1 l38 none]∧n=[.tree .row true 6 l39 none,.tree .row false 1 l40 none]) ⟨rfl,rfl,rfl⟩:Trip _ _ _ _ _ (.v (.d (.int .u8 z25))) [.cells [.ow (.ext 1),.d (.int .i64 z26)],.tree (.fmap true) true 8 l27 none,.cells [.d (.list false 1 l28)],.cells [.d (.int .u8 z29),.d (.int .i64 z30),.d (.str s31),.ow (.loc 0),.d (.int .i64 z32),.ow (.loc 1)],.cells [.d (.int .u8 z33),.d (.int .i64 z34),.d (.str s35),.ow (.ext 5),.d (.int .i64 z36),.ow (.ext 6)],.tree .row true 6 l37 none,.tree .row false 1 l38 none] [.tree .row true 6 l39 none,.tree .row false 1 l40 none]) rfl (by simp) ⟨rfl,⟨rfl,⟨rfl,⟨rfl,⟨rfl,⟨rfl,⟨rfl,trivial⟩⟩⟩⟩⟩⟩⟩ ⟨trivial,⟨trivial,⟨trivial,⟨trivial,⟨trivial,⟨trivial,⟨trivial,trivial⟩⟩⟩⟩⟩⟩⟩ (by simp) ?_
  clear hr
  try cbv
  refine join_nextG (n,(z25,z26,l27,l37,l38,z29,z30,s31,z32,l39,l40)) [] [(256,320),(257,352)] [8,9,10,11] [.ext 0,.ext 1,.ext 2,.ext 3,.loc 64,.loc 128,.loc 256,.loc 257] 384 ⟨by omega,h⟩ ?_
  try cbv
  first | done | exact rfl | cbv
 clear h
 rintro⟨m1,z43,z44,l45,l46,l47,z48,z49,s50,z51,l52,l53⟩ ⟨hm1,h⟩
 replace hm1:m1≤n:=hm1
 obtain _ | m1:=m1
 ·replace h:L53x1_1 0 z43 z44 l45 l46 l47 z48 z49 s50 z51 l52 l53=some (r1,r2,r3,r4,r5,r6,r7,r8,r9,r10,r11):=h
  rw[L53x1_1]at h
  cases h
 replace h:L53x1_1 (m1+1) z43 z44 l45 l46 l47 z48 z49 s50 z51 l52 l53=some (r1,r2,r3,r4,r5,r6,r7,r8,r9,r10,r11):=h
 rw[L53x1_1]at h
 try cbv
 refine seq_go ?_
 try cbv
 obtain⟨rfl,rfl,rfl,rfl,rfl,rfl,rfl,rfl,rfl,rfl,rfl⟩:=inj11 h
 refine fin_go ?_
 try cbv
 exact⟨[.loc 320,.loc 352],rfl,rfl,⟨rfl,⟨rfl,⟨rfl,⟨rfl,trivial⟩⟩⟩⟩,⟨rfl,⟨rfl,trivial⟩⟩,trivial⟩
end Go.Proofs.Ytiiojajgajnhpaa
end
set_option linter.unusedVariables false
noncomputable section
namespace Go.Proofs.Ytiiojajgajnhpaa
open Go Go.AM
theorem bO2s {α β γ:Type}(a:α) (b:β) (k:α→β→Option γ):bO2 (some (a,b)) k=k a b:=id rfl
theorem Ev.bSl {α β γ:Type}{A:Nat→Option (α ⊕ β)}{a:α}{k1:Nat→α→Option γ}{k2:Nat→β→Option γ}{r:γ}(ha:Ev A (.inl a)) (hk:Ev (fun n=>k1 n a) r):Ev (fun n=>bS (A n) (k1 n) (k2 n)) r:=by
 obtain⟨N,h⟩:=ha
 obtain⟨M,h'⟩:=hk
 refine⟨N+M,fun n hn=>?_⟩
 show bS (A n) (k1 n) (k2 n)=some r
 rw[h n (by omega)]
 exact h' n (by omega)
theorem Ev.bSr {α β γ:Type}{A:Nat→Option (α ⊕ β)}{b:β}{k1:Nat→α→Option γ}{k2:Nat→β→Option γ}{r:γ}(ha:Ev A (.inr b)) (hk:Ev (fun n=>k2 n b) r):Ev (fun n=>bS (A n) (k1 n) (k2 n)) r:=by
 obtain⟨N,h⟩:=ha
 obtain⟨M,h'⟩:=hk
 refine⟨N+M,fun n hn=>?_⟩
 show bS (A n) (k1 n) (k2 n)=some r
 rw[h n (by omega)]
 exact h' n (by omega)
def cellsV (c:VV×Bool):List D:=[.int .u8 c.1.k,.int .i64 c.1.i,.str c.1.nm,.list true 6 c.1.fs,.int .i64 c.1.id,.list false 1 c.1.pt,.bool c.2]
def crow (i:Nat) (c:VV×Bool):D:=.agg (.int .i64 (i:Int)::cellsV c)
def enc:Nat→List (VV×Bool)→List D
 | _,[]=>[]
 | i,c::r=>crow i c::enc (i+1) r
theorem enc_length:∀(i:Nat) (H:List (VV×Bool)),(enc i H).length=H.length
 | _,[]=>rfl
 | i,c::r=>by simp[enc,enc_length (i+1) r]
def look (H:List (VV×Bool)) (id:Int):Option (VV×Bool):=if 0≤id then H[id.toNat]? else none
theorem eqKi (a b:Int):eqK (.int .i64 a) (.int .i64 b)=some (a==b):=by
 simp[eqK]
theorem findR_enc (id:Int):∀(H:List (VV×Bool)) (i:Nat),findR true (.int .i64 id) (enc i H)=some ((look H (id - i)).map fun c=>.agg (cellsV c))
 | [],i=>by
  unfold look
  simp only[enc,findR]
  split<;>simp
 | c::r,i=>by
  simp only[enc,crow,findR,eqKi]
  by_cases e:id=(i:Int)
  ·subst e
   simp only[beq_self_eq_true,Int.sub_self]
   simp[look,rowOf]
  ·have:(id==(i:Int))=false:=by simpa using e
   rw[this]
   simp only
   rw[findR_enc id r (i+1)]
   congr 2
   unfold look
   by_cases h:(i:Int)<id
   ·rw[if_pos (by omega),if_pos (by omega)]
    obtain⟨j,hj⟩:∃j:Nat,id - i=((j+1:Nat):Int):=⟨(id - i - 1).toNat,by omega⟩
    rw[hj,show id - ((i+1:Nat):Int)=(j:Int)by omega,Int.toNat_natCast,Int.toNat_natCast]
    rfl
   ·rw[if_neg (by omega),if_neg (by omega)]
theorem putR_set (d:VV×Bool):∀(H:List (VV×Bool)) (i j:Nat),j<H.length→putR (.int .i64 ((i+j:Nat):Int)) (cellsV d) (enc i H)=some (enc i (H.set j d))
 | [],i,j,h=>by simp at h
 | c::r,i,0,_=>by
  simp only[enc,crow,putR,eqKi,Nat.add_zero,beq_self_eq_true,List.set_cons_zero]
 | c::r,i,j+1,h=>by
  have hne:(((i+(j+1):Nat):Int)==(i:Int))=false:=by simp;omega
  have ih:=putR_set d r (i+1) j (by simpa using h)
  simp only[enc,crow,putR,eqKi,hne,List.set_cons_succ]
  rw[show i+(j+1)=i+1+j by omega,ih]
theorem putR_new (d:VV×Bool):∀(H:List (VV×Bool)) (i:Nat),putR (.int .i64 ((i+H.length:Nat):Int)) (cellsV d) (enc i H)=some (enc i (H++[d]))
 | [],i=>rfl
 | c::r,i=>by
  have hne:(((i+(c::r).length:Nat):Int)==(i:Int))=false:=by simp;omega
  have ih:=putR_new d r (i+1)
  simp only[enc,crow,putR,eqKi,hne,List.cons_append]
  rw[show i+(c::r).length=i+1+r.length by simp;omega,ih]
theorem look_some {H:List (VV×Bool)}{id:Int}{c:VV×Bool}(h:look H id=some c):0≤id∧id.toNat<H.length∧H[id.toNat]?=some c∧c∈H:=by
 unfold look at h
 split at h
 ·rename_i h0
  exact⟨h0,(List.getElem?_eq_some_iff.1 h).1,h,List.mem_of_getElem? h⟩
 ·cases h
theorem putF_set {γ:Type}{H:List (VV×Bool)}{id:Int}{c:VV×Bool}(h:look H id=some c) (v:VV) (b:Bool) (k:List D→Option γ):
  putF (.int .i64 id) [.int .u8 v.k,.int .i64 v.i,.str v.nm,.list true 6 v.fs,.int .i64 v.id,.list false 1 v.pt,.bool b] (enc 0 H) k=k (enc 0 (H.set id.toNat (v,b))):=by
 obtain⟨h1,h2,_,_⟩:=look_some h
 have:=putR_set (v,b) H 0 id.toNat h2
 rw[Nat.zero_add,show ((id.toNat:Nat):Int)=id by omega]at this
 unfold putF
 rw[show putR (.int .i64 id) [.int .u8 v.k,.int .i64 v.i,.str v.nm,.list true 6 v.fs,.int .i64 v.id,.list false 1 v.pt,.bool b] (enc 0 H)=_ from this]
theorem putF_new {γ:Type}{H:List (VV×Bool)}(v:VV) (b:Bool) (k:List D→Option γ):
  putF (.int .i64 (H.length:Int)) [.int .u8 v.k,.int .i64 v.i,.str v.nm,.list true 6 v.fs,.int .i64 v.id,.list false 1 v.pt,.bool b] (enc 0 H) k=k (enc 0 (H++[(v,b)])):=by
 have:=putR_new (v,b) H 0
 rw[Nat.zero_add]at this
 unfold putF
 rw[show putR (.int .i64 (H.length:Int)) [.int .u8 v.k,.int .i64 v.i,.str v.nm,.list true 6 v.fs,.int .i64 v.id,.list false 1 v.pt,.bool b] (enc 0 H)=_ from this]
structure HS (H:List (VV×Bool)):Prop where
 len:H.length≤1000
 vs:∀c∈H,VS c.1
theorem HS.nil:HS []:=⟨by simp,by simp⟩
theorem HS.app {H:List (VV×Bool)}(h:HS H) (hl:H.length<1000) {v:VV}{b:Bool}(hv:VS v):HS (H++[(v,b)]):=⟨by simp;omega,fun c hc=>by
 rcases List.mem_append.1 hc with hc | hc
 ·exact h.vs c hc
 ·rw[List.mem_singleton.1 hc];exact hv⟩
theorem HS.set {H:List (VV×Bool)}(h:HS H) (i:Nat) {v:VV}{b:Bool}(hv:VS v):HS (H.set i (v,b)):=⟨by simpa using h.len,fun c hc=>by
 rcases List.mem_or_eq_of_mem_set hc with hc | hc
 ·exact h.vs c hc
 ·rw[hc];exact hv⟩
theorem Sm.nil:Sm []:=.mk (by simp) (by simp) (by simp)
theorem zeroV_VS:VS zeroV:=⟨zeroV_VT,by decide,.nil⟩
def fnd (H:List (VV×Bool)) (id:Int):VV×Int:=match look H id with
 | none=>(zeroV,6)
 | some c=>if c.2=true then (zeroV,1)else (c.1,0)
theorem fnd_VS {H:List (VV×Bool)}(h:HS H) (id:Int):VS (fnd H id).1:=by
 unfold fnd
 cases e:look H id with
 | none=>exact zeroV_VS
 | some c=>
  simp only
  split
  ·exact zeroV_VS
  ·exact h.vs c (look_some e).2.2.2
theorem fnd_ok {H:List (VV×Bool)}{id:Int}(h:(fnd H id).2=0):look H id=some ((fnd H id).1,false):=by
 unfold fnd at h ⊢
 cases e:look H id with
 | none=>rw[e]at h;exact absurd h (by show ¬(6:Int)=0;decide)
 | some c=>
  rw[e]at h
  obtain⟨v,b⟩:=c
  cases b
  ·rfl
  ·exact absurd h (by show ¬(1:Int)=0;decide)
theorem fnd_cases (H:List (VV×Bool)) (id:Int):(fnd H id).2=0∨((fnd H id).2=1∧(fnd H id).1=zeroV)∨((fnd H id).2=6∧(fnd H id).1=zeroV):=by
 unfold fnd
 cases look H id with
 | none=>exact .inr (.inr ⟨rfl,rfl⟩)
 | some c=>
  obtain⟨v,b⟩:=c
  cases b
  ·exact .inl rfl
  ·exact .inr (.inl ⟨rfl,rfl⟩)
theorem ev24' (H:List (VV×Bool)) (id z:Int):Ev (fun n=>F108 n id z (enc 0 H)) ((fnd H id).1.k,(fnd H id).1.i,(fnd H id).1.nm,(fnd H id).1.fs,(fnd H id).1.id,(fnd H id).1.pt,(fnd H id).2,z,enc 0 H):=by
 unfold F108 F107
 simp only[bO2s]
 have hf:=findR_enc id H 0
 rw[show id - ((0:Nat):Int)=id by omega]at hf
 unfold findF fnd
 rw[hf]
 cases look H id with
 | none=>exact .ret
 | some c=>
  obtain⟨v,b⟩:=c
  cases b
  ·exact .ret
  ·exact .ret
theorem ev21' (H:List (VV×Bool)) (hl:H.length≤1000) (z:Int):Ev (fun n=>F59 n z (enc 0 H)) (1000 - (H.length:Int),z,enc 0 H):=by
 unfold F59 F107
 simp only[bO2s,lenF,enc_length,letF,iw (z:=1000 - (H.length:Int)) (by omega) (by omega)]
 exact .ret
theorem ev18' (H:List (VV×Bool)) (z:Int):Ev (fun n=>F57 n z (enc 0 H)) ((H.length:Int),z,enc 0 H):=by
 unfold F57 F107
 simp only[bO2s,lenF,enc_length]
 exact .ret
theorem ev20' (l:List D) (z:Int):Ev (fun n=>F58 n z l) (z,z,l):=by
 unfold F58 F107
 simp only[bO2s]
 exact .ret
theorem ev19' (H:List (VV×Bool)) (id z:Int):Ev (fun n=>F56 n id z (enc 0 H)) (decide ((fnd H id).2=0),z,enc 0 H):=by
 unfold F56
 refine Ev.bO9 (ev24' H id z) ?_
 by_cases c:(fnd H id).2=0
 ·simp only[if_pos c,decide_eq_true c];exact .ret
 ·simp only[if_neg c,decide_eq_false c];exact .ret
theorem ev17' {H:List (VV×Bool)}(hH:HS H) (hl:H.length<1000) {v:VV}(hv:VS v) {z:Int}(h0:0≤z) (h1:z≤1000):
  Ev (fun n=>F51 n v.k v.i v.nm v.fs v.id v.pt z (enc 0 H)) ((H.length:Int),0,z+1,enc 0 (H++[(v,false)])):=by
 unfold F51 F107
 simp only[bO2s]
 refine Ev.bO3 (ev21' H hH.len z) ?_
 simp only[if_neg (show ¬1000 - (H.length:Int)=0 by omega)]
 refine .succ ?_
 simp only[L51_1,Bool.false_eq_true,if_false,lenF,enc_length]
 refine Ev.bO6 (ev10z hv) ?_
 simp only[putF_new,letF,iw (z:=z+1) (by omega) (by omega)]
 exact .ret
theorem ev17full {H:List (VV×Bool)}(hl:H.length=1000) (v:VV) (z:Int):
  Ev (fun n=>F51 n v.k v.i v.nm v.fs v.id v.pt z (enc 0 H)) (0,4,z,enc 0 H):=by
 unfold F51 F107
 simp only[bO2s]
 refine Ev.bO3 (ev21' H (by omega) z) ?_
 simp only[if_pos (show 1000 - (H.length:Int)=0 by omega)]
 exact .succ (by simp only[L51_1,if_true];exact .ret)
def rdS (H:List (VV×Bool)) (id:Int) (q:List Int):VV×Int:=if (fnd H id).2=0 then getS q (fnd H id).1 else (zeroV,(fnd H id).2)
theorem ev12' {H:List (VV×Bool)}(hH:HS H) (id:Int) {q:List Int}(hq:q.length≤maxLen) (z:Int):
  Ev (fun n=>F52 n id (pD q) z (enc 0 H)) ((rdS H id q).1.k,(rdS H id q).1.i,(rdS H id q).1.nm,(rdS H id q).1.id,(rdS H id q).2,z,enc 0 H,(rdS H id q).1.fs,(rdS H id q).1.pt):=by
 unfold F52 rdS
 refine Ev.bO9 (ev24' H id z) ?_
 by_cases c:(fnd H id).2=0
 ·simp only[if_pos c]
  refine .succ ?_
  simp only[L52_1,Bool.false_eq_true,if_false]
  exact Ev.bO7 (ev20 q hq (fnd_VS hH id)) .ret
 ·simp only[if_neg c]
  exact .succ (by simp only[L52_1,if_true];exact .ret)
def swS (H:List (VV×Bool)) (id:Int) (q:List Int) (x:VV):VV×Int×List (VV×Bool):=
 if (fnd H id).2=0 then (if (getS q (fnd H id).1).2=0 then ((getS q (fnd H id).1).1,0,H.set id.toNat ((setS q (fnd H id).1 x).1,false))else (zeroV,(getS q (fnd H id).1).2,H))else (zeroV,(fnd H id).2,H)
theorem ev15' {H:List (VV×Bool)}(hH:HS H) (id:Int) {q:List Int}(hq:q.length≤maxLen) (hw:∀z∈q,(Lit.int .i64 z).wf=true) {x:VV}(hx:VS x) (z:Int):
  Ev (fun n=>F53 n id (pD q) x.k x.i x.nm x.fs x.id x.pt z (enc 0 H)) ((swS H id q x).1.k,(swS H id q x).1.i,(swS H id q x).1.nm,(swS H id q x).1.id,(swS H id q x).2.1,z,enc 0 (swS H id q x).2.2,(swS H id q x).1.fs,(swS H id q x).1.pt):=by
 unfold F53 swS
 have f53:∀(a b:Int) (l:List D) (c d:Int) (s:ByteArray) (e:Int) (f g:List D),Ev (fun n=>L53_1 n a b l c d s e f g) (c,d,s,e,a,b,l,f,g):=fun a b l c d s e f g=>.succ (by simp only[L53_1];exact .ret)
 by_cases c:(fnd H id).2=0
 ·have hv:=fnd_VS hH id
  have hl:=fnd_ok c
  by_cases g:(getS q (fnd H id).1).2=0
  ·have hs:=set_of_get q (fnd H id).1 x g
   have hR:setR q (fnd H id).1 x=((setS q (fnd H id).1 x).1,0):=by unfold setR;rw[if_pos hs]
   simp only[if_pos c,if_pos g]
   refine Ev.bSr (b:=((0:Int),z,enc 0 (H.set id.toNat ((setS q (fnd H id).1 x).1,false)),pD q,(getS q (fnd H id).1).1.k,(getS q (fnd H id).1).1.i,(getS q (fnd H id).1).1.nm,(getS q (fnd H id).1).1.id,x.k,x.i,x.nm,x.fs,x.id,x.pt,(getS q (fnd H id).1).1.fs,(getS q (fnd H id).1).1.pt)) ?_ (f53 _ _ _ _ _ _ _ _ _)
   unfold F109x1
   refine Ev.bO9 (ev24' H id z) ?_
   simp only[if_pos c]
   refine .succ ?_
   simp only[L109x1_1,Bool.false_eq_true,if_false]
   have h31:Ev (fun n=>F110 n (fnd H id).1.k (fnd H id).1.i (fnd H id).1.nm (fnd H id).1.fs (fnd H id).1.id (fnd H id).1.pt (pD q) 0 0 ByteArray.empty 0 x.k x.i x.nm x.fs x.id x.pt)
     (.inr ((setR q (fnd H id).1 x).1.k,(setR q (fnd H id).1 x).1.i,(setR q (fnd H id).1 x).1.nm,(setR q (fnd H id).1 x).1.fs,(setR q (fnd H id).1 x).1.id,(setR q (fnd H id).1 x).1.pt,(setR q (fnd H id).1 x).2,pD q,(getS q (fnd H id).1).1.k,(getS q (fnd H id).1).1.i,(getS q (fnd H id).1).1.nm,(getS q (fnd H id).1).1.id,x.k,x.i,x.nm,x.fs,x.id,x.pt,(getS q (fnd H id).1).1.fs,(getS q (fnd H id).1).1.pt)):=by
    unfold F110
    refine Ev.bO7 (ev20 q hq hv) ?_
    simp only[if_pos g]
    refine .succ ?_
    simp only[L110_1,Bool.false_eq_true,if_false]
    exact Ev.bO7 (ev19 hv hx hq hw) .ret
   rw[hR]at h31
   refine Ev.bSr h31 ?_
   show Ev (fun n=>L109x1_2 n id z (enc 0 H) 0 (pD q) _ _ _ _ _ _ _ _ _ _ _ _ _ _ _ _ _ _) _
   refine .succ ?_
   simp only[L109x1_2,if_true]
   refine .succ ?_
   simp only[L109x1_3,if_true,putF_set hl]
   exact .succ (by simp only[L109x1_4];exact .ret)
  ·simp only[if_pos c,if_neg g]
   refine Ev.bSr (b:=((getS q (fnd H id).1).2,z,enc 0 H,pD q,(0:Int),(0:Int),ByteArray.empty,(0:Int),x.k,x.i,x.nm,x.fs,x.id,x.pt,([]:List D),([]:List D))) ?_ (f53 _ _ _ _ _ _ _ _ _)
   unfold F109x1
   refine Ev.bO9 (ev24' H id z) ?_
   simp only[if_pos c]
   refine .succ ?_
   simp only[L109x1_1,Bool.false_eq_true,if_false]
   have h31:Ev (fun n=>F110 n (fnd H id).1.k (fnd H id).1.i (fnd H id).1.nm (fnd H id).1.fs (fnd H id).1.id (fnd H id).1.pt (pD q) 0 0 ByteArray.empty 0 x.k x.i x.nm x.fs x.id x.pt)
     (.inl ((getS q (fnd H id).1).1.k,(getS q (fnd H id).1).1.i,(getS q (fnd H id).1).1.nm,(getS q (fnd H id).1).1.fs,(getS q (fnd H id).1).1.id,(getS q (fnd H id).1).1.pt,(getS q (fnd H id).1).2,pD q,0,0,ByteArray.empty,0,x.k,x.i,x.nm,x.fs,x.id,x.pt)):=by
    unfold F110
    refine Ev.bO7 (ev20 q hq hv) ?_
    simp only[if_neg g]
    exact .succ (by simp only[L110_1,if_true];exact .ret)
   refine Ev.bSl h31 ?_
   show Ev (fun n=>L109x1_2 n id z (enc 0 H) (getS q (fnd H id).1).2 (pD q) _ _ _ _ _ _ _ _ _ _ _ _ _ _ _ _ _ _) _
   refine .succ ?_
   simp only[L109x1_2,if_neg g]
   refine .succ ?_
   simp only[L109x1_3,Bool.false_eq_true,if_false]
   exact .succ (by simp only[L109x1_4];exact .ret)
 ·simp only[if_neg c]
  refine Ev.bSl (a:=((fnd H id).2,z,enc 0 H,pD q,(0:Int),(0:Int),ByteArray.empty,(0:Int),x.k,x.i,x.nm,x.fs,x.id,x.pt)) ?_ (f53 _ _ _ _ _ _ _ _ _)
  unfold F109x1
  refine Ev.bO9 (ev24' H id z) ?_
  simp only[if_neg c]
  exact .succ (by simp only[L109x1_1,if_true];exact .ret)
theorem ev15o {H:List (VV×Bool)}(hH:HS H) (id:Int) {q:List Int}(hq:q.length≤maxLen) (hw:∀z∈q,(Lit.int .i64 z).wf=true) {x:VV}(hx:VS x) (z:Int):
  Ev (fun n=>F53x1 n id (pD q) x.k x.i x.nm x.id z (enc 0 H) x.fs x.pt) ((swS H id q x).1.k,(swS H id q x).1.i,(swS H id q x).1.nm,(swS H id q x).1.id,(swS H id q x).2.1,z,enc 0 (swS H id q x).2.2,x.fs,x.pt,(swS H id q x).1.fs,(swS H id q x).1.pt):=by
 unfold F53x1 swS
 have f53:∀(a b:Int) (l u w:List D) (c d:Int) (s:ByteArray) (e:Int) (f g:List D),Ev (fun n=>L53x1_1 n a b l u w c d s e f g) (c,d,s,e,a,b,l,u,w,f,g):=fun a b l u w c d s e f g=>.succ (by simp only[L53x1_1];exact .ret)
 by_cases c:(fnd H id).2=0
 ·have hv:=fnd_VS hH id
  have hl:=fnd_ok c
  by_cases g:(getS q (fnd H id).1).2=0
  ·have hs:=set_of_get q (fnd H id).1 x g
   have hR:setR q (fnd H id).1 x=((setS q (fnd H id).1 x).1,0):=by unfold setR;rw[if_pos hs]
   simp only[if_pos c,if_pos g]
   refine Ev.bSr (b:=((0:Int),z,enc 0 (H.set id.toNat ((setS q (fnd H id).1 x).1,false)),pD q,(getS q (fnd H id).1).1.k,(getS q (fnd H id).1).1.i,(getS q (fnd H id).1).1.nm,(getS q (fnd H id).1).1.id,x.k,x.i,x.nm,x.id,x.fs,x.pt,(getS q (fnd H id).1).1.fs,(getS q (fnd H id).1).1.pt)) ?_ (f53 _ _ _ _ _ _ _ _ _ _ _)
   unfold F109x2
   refine Ev.bO9 (ev24' H id z) ?_
   simp only[if_pos c]
   refine .succ ?_
   simp only[L109x2_1,Bool.false_eq_true,if_false]
   have h31:Ev (fun n=>F110x1 n (fnd H id).1.k (fnd H id).1.i (fnd H id).1.nm (fnd H id).1.fs (fnd H id).1.id (fnd H id).1.pt (pD q) 0 0 ByteArray.empty 0 x.k x.i x.nm x.id x.fs x.pt)
     (.inr ((setR q (fnd H id).1 x).1.k,(setR q (fnd H id).1 x).1.i,(setR q (fnd H id).1 x).1.nm,(setR q (fnd H id).1 x).1.fs,(setR q (fnd H id).1 x).1.id,(setR q (fnd H id).1 x).1.pt,(setR q (fnd H id).1 x).2,pD q,(getS q (fnd H id).1).1.k,(getS q (fnd H id).1).1.i,(getS q (fnd H id).1).1.nm,(getS q (fnd H id).1).1.id,x.k,x.i,x.nm,x.id,x.fs,x.pt,(getS q (fnd H id).1).1.fs,(getS q (fnd H id).1).1.pt)):=by
    unfold F110x1
    refine Ev.bO7 (ev20 q hq hv) ?_
    simp only[if_pos g]
    refine .succ ?_
    simp only[L110x1_1,Bool.false_eq_true,if_false]
    exact Ev.bO9 (ev19o hv hx hq hw) .ret
   rw[hR]at h31
   refine Ev.bSr h31 ?_
   show Ev (fun n=>L109x2_2 n id z (enc 0 H) 0 (pD q) _ _ _ _ _ _ _ _ _ _ _ _ _ _ _ _ _ _) _
   refine .succ ?_
   simp only[L109x2_2,if_true]
   refine .succ ?_
   simp only[L109x2_3,if_true,putF_set hl]
   exact .succ (by simp only[L109x2_4];exact .ret)
  ·simp only[if_pos c,if_neg g]
   refine Ev.bSr (b:=((getS q (fnd H id).1).2,z,enc 0 H,pD q,(0:Int),(0:Int),ByteArray.empty,(0:Int),x.k,x.i,x.nm,x.id,x.fs,x.pt,([]:List D),([]:List D))) ?_ (f53 _ _ _ _ _ _ _ _ _ _ _)
   unfold F109x2
   refine Ev.bO9 (ev24' H id z) ?_
   simp only[if_pos c]
   refine .succ ?_
   simp only[L109x2_1,Bool.false_eq_true,if_false]
   have h31:Ev (fun n=>F110x1 n (fnd H id).1.k (fnd H id).1.i (fnd H id).1.nm (fnd H id).1.fs (fnd H id).1.id (fnd H id).1.pt (pD q) 0 0 ByteArray.empty 0 x.k x.i x.nm x.id x.fs x.pt)
     (.inl ((getS q (fnd H id).1).1.k,(getS q (fnd H id).1).1.i,(getS q (fnd H id).1).1.nm,(getS q (fnd H id).1).1.fs,(getS q (fnd H id).1).1.id,(getS q (fnd H id).1).1.pt,(getS q (fnd H id).1).2,pD q,0,0,ByteArray.empty,0,x.k,x.i,x.nm,x.id,x.fs,x.pt)):=by
    unfold F110x1
    refine Ev.bO7 (ev20 q hq hv) ?_
    simp only[if_neg g]
    exact .succ (by simp only[L110x1_1,if_true];exact .ret)
   refine Ev.bSl h31 ?_
   show Ev (fun n=>L109x2_2 n id z (enc 0 H) (getS q (fnd H id).1).2 (pD q) _ _ _ _ _ _ _ _ _ _ _ _ _ _ _ _ _ _) _
   refine .succ ?_
   simp only[L109x2_2,if_neg g]
   refine .succ ?_
   simp only[L109x2_3,Bool.false_eq_true,if_false]
   exact .succ (by simp only[L109x2_4];exact .ret)
 ·simp only[if_neg c]
  refine Ev.bSl (a:=((fnd H id).2,z,enc 0 H,pD q,(0:Int),(0:Int),ByteArray.empty,(0:Int),x.k,x.i,x.nm,x.id,x.fs,x.pt)) ?_ (f53 _ _ _ _ _ _ _ _ _ _ _)
  unfold F109x2
  refine Ev.bO9 (ev24' H id z) ?_
  simp only[if_neg c]
  exact .succ (by simp only[L109x2_1,if_true];exact .ret)
theorem ev11' {H:List (VV×Bool)}(hH:HS H) (id:Int) {q:List Int}(hq:q.length≤maxLen) (hw:∀z∈q,(Lit.int .i64 z).wf=true) (z:Int):
  Ev (fun n=>F115 n id (pD q) z (enc 0 H)) ((swS H id q zeroV).1.k,(swS H id q zeroV).1.i,(swS H id q zeroV).1.nm,(swS H id q zeroV).1.id,(swS H id q zeroV).2.1,z,enc 0 (swS H id q zeroV).2.2,(swS H id q zeroV).1.fs,(swS H id q zeroV).1.pt):=by
 unfold F115
 exact Ev.bO9 (ev15' hH id hq hw zeroV_VS z) .ret
def ptS (H:List (VV×Bool)) (id:Int) (q:List Int) (x:VV):Int×List (VV×Bool):=
 if (fnd H id).2=0 then (if (setS q (fnd H id).1 x).2=0 then (if (getS q (fnd H id).1).2=3 then (0,H.set id.toNat ((setS q (fnd H id).1 x).1,false))else (6,H))else ((setS q (fnd H id).1 x).2,H))else ((fnd H id).2,H)
theorem ev13' {H:List (VV×Bool)}(hH:HS H) (id:Int) {q:List Int}(hq:q.length≤maxLen) (hw:∀z∈q,(Lit.int .i64 z).wf=true) {x:VV}(hx:VS x) (z:Int):
  Ev (fun n=>F55 n id (pD q) x.k x.i x.nm x.id z (enc 0 H) x.fs x.pt) ((ptS H id q x).1,z,enc 0 (ptS H id q x).2,x.fs,x.pt):=by
 unfold F55 ptS
 have fin:∀(f:Int) (l:List D) (R:Nat→Option (Int×Int×List D×List D×Int×Int×ByteArray×Int×List D×List D)),Ev R (f,z,l,pD q,x.k,x.i,x.nm,x.id,x.fs,x.pt)→Ev (fun n=>bO10 (R n) fun z11 z12 l13 l14 z15 z16 s17 z18 l19 l20=>some (z11,z12,l13,l19,l20)) (f,z,l,x.fs,x.pt):=fun f l R h=>Ev.bO10 h .ret
 by_cases c:(fnd H id).2=0
 ·have hv:=fnd_VS hH id
  have hl:=fnd_ok c
  simp only[if_pos c]
  by_cases f:(setS q (fnd H id).1 x).2=0
  ·have hR:setR q (fnd H id).1 x=((setS q (fnd H id).1 x).1,0):=by unfold setR;rw[if_pos f]
   have h19:=ev19o hv hx hq hw
   rw[hR]at h19
   simp only[if_pos f]
   by_cases g:(getS q (fnd H id).1).2=3
   ·simp only[if_pos g]
    refine fin _ _ _ ?_
    unfold F109
    refine Ev.bO9 (ev24' H id z) ?_
    simp only[if_pos c]
    refine .succ ?_
    simp only[L109_1,Bool.false_eq_true,if_false]
    refine Ev.bO14 (a1:=(setS q (fnd H id).1 x).1.k) (a2:=(setS q (fnd H id).1 x).1.i) (a3:=(setS q (fnd H id).1 x).1.nm) (a4:=(setS q (fnd H id).1 x).1.fs) (a5:=(setS q (fnd H id).1 x).1.id) (a6:=(setS q (fnd H id).1 x).1.pt) (a7:=0) (a8:=pD q) (a9:=x.k) (a10:=x.i) (a11:=x.nm) (a12:=x.id) (a13:=x.fs) (a14:=x.pt) ?_ ?_
    ·unfold F111
     refine Ev.bO9 h19 ?_
     simp only[if_true]
     refine .succ ?_
     simp only[L111_1,Bool.false_eq_true,if_false]
     refine Ev.bO7 (ev20 q hq hv) ?_
     simp only[if_pos g]
     exact .succ (by simp only[L111_2,Bool.false_eq_true,if_false];exact .ret)
    ·simp only[if_true]
     refine .succ ?_
     simp only[L109_2,if_true,putF_set hl]
     exact .succ (by simp only[L109_3];exact .ret)
   ·simp only[if_neg g]
    refine fin _ _ _ ?_
    unfold F109
    refine Ev.bO9 (ev24' H id z) ?_
    simp only[if_pos c]
    refine .succ ?_
    simp only[L109_1,Bool.false_eq_true,if_false]
    refine Ev.bO14 (a1:=0) (a2:=0) (a3:=ByteArray.empty) (a4:=[]) (a5:=0) (a6:=[]) (a7:=6) (a8:=pD q) (a9:=x.k) (a10:=x.i) (a11:=x.nm) (a12:=x.id) (a13:=x.fs) (a14:=x.pt) ?_ ?_
    ·unfold F111
     refine Ev.bO9 h19 ?_
     simp only[if_true]
     refine .succ ?_
     simp only[L111_1,Bool.false_eq_true,if_false]
     refine Ev.bO7 (ev20 q hq hv) ?_
     simp only[if_neg g]
     exact .succ (by simp only[L111_2,if_true];exact .ret)
    ·simp only[if_neg (show ¬(6:Int)=0 by decide)]
     refine .succ ?_
     simp only[L109_2,Bool.false_eq_true,if_false]
     exact .succ (by simp only[L109_3];exact .ret)
  ·have hR:setR q (fnd H id).1 x=(zeroV,(setS q (fnd H id).1 x).2):=by unfold setR;rw[if_neg f]
   have h19:=ev19o hv hx hq hw
   rw[hR]at h19
   simp only[if_neg f]
   refine fin _ _ _ ?_
   unfold F109
   refine Ev.bO9 (ev24' H id z) ?_
   simp only[if_pos c]
   refine .succ ?_
   simp only[L109_1,Bool.false_eq_true,if_false]
   refine Ev.bO14 (a1:=zeroV.k) (a2:=zeroV.i) (a3:=zeroV.nm) (a4:=zeroV.fs) (a5:=zeroV.id) (a6:=zeroV.pt) (a7:=(setS q (fnd H id).1 x).2) (a8:=pD q) (a9:=x.k) (a10:=x.i) (a11:=x.nm) (a12:=x.id) (a13:=x.fs) (a14:=x.pt) ?_ ?_
   ·unfold F111
    refine Ev.bO9 h19 ?_
    simp only[if_neg f]
    exact .succ (by simp only[L111_1,if_true];exact .ret)
   ·simp only[if_neg f]
    refine .succ ?_
    simp only[L109_2,Bool.false_eq_true,if_false]
    exact .succ (by simp only[L109_3];exact .ret)
 ·simp only[if_neg c]
  refine fin _ _ _ ?_
  unfold F109
  refine Ev.bO9 (ev24' H id z) ?_
  simp only[if_neg c]
  exact .succ (by simp only[L109_1,if_true];exact .ret)
def frS (H:List (VV×Bool)) (id:Int):VV×Int×List (VV×Bool):=
 if (fnd H id).2=0 then ((fnd H id).1,0,H.set id.toNat (zeroV,true))else if (fnd H id).2=1 then (zeroV,2,H)else (zeroV,6,H)
theorem ev16' {H:List (VV×Bool)}(hH:HS H) (id:Int) {z:Int}(h0:0≤z) (h1:z≤1000):
  Ev (fun n=>F54 n id z (enc 0 H)) ((frS H id).1.k,(frS H id).1.i,(frS H id).1.nm,(frS H id).1.id,(frS H id).2.1,(if (fnd H id).2=0 then z - 1 else z),enc 0 (frS H id).2.2,(frS H id).1.fs,(frS H id).1.pt):=by
 unfold F54 frS
 refine Ev.bO9 (ev24' H id z) ?_
 by_cases c:(fnd H id).2=0
 ·have hl:=fnd_ok c
  simp only[if_pos c,c,if_neg (show ¬(0:Int)=1 by decide)]
  refine .succ ?_
  simp only[L54_1,Bool.false_eq_true,if_false,if_neg (show ¬(0:Int)=6 by decide)]
  refine .succ ?_
  have hp:∀k:List D→Option (Int×Int×ByteArray×Int×Int×Int×List D×List D×List D),putF (.int .i64 id) [.int .u8 0,.int .i64 0,.str ByteArray.empty,.list true 6 [],.int .i64 0,.list false 1 [],.bool true] (enc 0 H) k=k (enc 0 (H.set id.toNat (zeroV,true))):=fun k=>putF_set hl zeroV true k
  simp only[L54_2,Bool.false_eq_true,if_false,hp,letF,iw (z:=z - 1) (by omega) (by omega),if_true]
  exact Ev.bO6 (ev10 (fnd_VS hH id)) .ret
 ·rcases fnd_cases H id with h | ⟨h,hz⟩ | ⟨h,hz⟩
  ·exact absurd h c
  ·simp only[if_neg c,if_pos h]
   exact .succ (by simp only[L54_1,if_true];exact .ret)
  ·simp only[if_neg c,h,if_neg (show ¬(6:Int)=1 by decide)]
   refine .succ ?_
   simp only[L54_1,Bool.false_eq_true,if_false,if_true]
   exact .succ (by simp only[L54_2,if_true];exact .ret)
end Go.Proofs.Ytiiojajgajnhpaa
namespace Go.AM
open Go Go.RowKit Go.ChangeShapes Go.WideShapes
def Shapes (ti:Types):List TypeId→List D→Prop
 | [],[]=>True
 | t::ts,x::xs=>Shape ti t x.cells∧(∀y,ti t=some y→x.isAgg=rowD y.desc)∧Shapes ti ts xs
 | _,_=>False
theorem Shapes.length {ti:Types}:∀{ts:List TypeId}{xs:List D},Shapes ti ts xs→xs.length=ts.length
 | [],[],_=>rfl
 | _::_,_::_,h=>by simp[Shapes.length h.2.2]
 | [],_::_,h=>h.elim
 | _::_,[],h=>h.elim
section
variable {H:Type}{enc:TypeId×Value→H}{P:Program}{ti:Types}{T:List TypeId}{w:World}
theorem conv_arg (hti:TIok P ti) (hT:plainB ti T=true) {Z:Zone}(hZ:∀b o,¬Z b o) {base base':Nat}{spare:Nat→Bool}{held:Bool}{r:Reach}{t:TypeId}{v:Value}{d:DataW H}{ps:List MemPlace}(ht:t∈T)
  (hok:Value.okWide P w r base' t v) (h:DataW.Trod enc P w base spare held t v d ps):∃x:D,Shape ti t x.cells∧(∀y,ti t=some y→x.isAgg=rowD y.desc)∧RelD w Z x v:=by
 obtain⟨fuel,h⟩:=h
 obtain⟨ds,hs,h1,h2,h3⟩:=conv hti hT (Z:=Z) hZ fuel t _ _ _ ht h
 have hp:=List.all_eq_true.1 hT t ht
 split at hp
 ·rename_i y hy
  have hu:=(hti t y hy).1
  have single:rowD y.desc=false→v.cells.toList=[v]→∃x:D,Shape ti t x.cells∧(∀y,ti t=some y→x.isAgg=rowD y.desc)∧RelD w Z x v:=by
   intro hr hv
   rw[hv]at h1 h3
   obtain⟨c,rfl⟩:=List.length_eq_one_iff.1 h1
   have hc:=h2 c (by simp)
   have e:c.cells=[c]:=by cases c<;>first | rfl | simp[D.isAgg]at hc
   refine⟨c,by rw[e];exact hs,fun y' hy'=>?_,h3 0 c v rfl rfl⟩
   rw[hy]at hy'
   obtain rfl:y=y':=by simpa using hy'
   rw[hc,hr]
  split at hp
  ·rename_i hd
   rw[hd]at hu
   obtain⟨b,rfl⟩:=okWide_bool hu hok
   exact single (by rw[hd];rfl) rfl
  ·rename_i k hd
   rw[hd]at hu
   obtain⟨b,rfl⟩:=okWide_int hu hok
   exact single (by rw[hd];rfl) rfl
  ·rename_i hd
   rw[hd]at hu
   obtain⟨b,rfl⟩:=okWide_string hu hok
   exact single (by rw[hd];rfl) rfl
  ·rename_i e hd
   rw[hd]at hu
   obtain⟨a,l,c,rfl⟩:=okWide_slice hu hok
   exact single (by rw[hd];rfl) rfl
  ·rename_i fs hd
   rw[hd]at hu
   obtain⟨cs,rfl,_⟩:=okWide_struct hu hok
   refine⟨.agg ds,hs,fun y' hy'=>?_,.agg ds cs (by simpa [Value.cells] using h1.symm) h2 (fun j c u hc hu'=>h3 j c u hc (by simpa [Value.cells] using hu'))⟩
   rw[hy]at hy'
   obtain rfl:y=y':=by simpa using hy'
   rw[hd];rfl
  ·simp at hp
 ·simp at hp
theorem conv_args (hti:TIok P ti) (hT:plainB ti T=true) {Z:Zone}(hZ:∀b o,¬Z b o) {base base':Nat}{spare:Nat→Bool}{held:Bool}{r:Reach}:
  ∀(ts:List TypeId) (vs:List Value) (ds:List (DataW H)) (ps:List MemPlace),(∀t∈ts,t∈T)→DataW.TrodAll enc P w base spare held ts vs ds ps→
   (∀(j:Nat) t v,ts[j]?=some t→vs[j]?=some v→Value.okWide P w r base' t v)→
   ∃xs,Shapes ti ts xs∧∀(j:Nat) x v,xs[j]?=some x→vs[j]?=some v→RelD w Z x v
 | [],vs,ds,ps,_,h,_=>⟨[],trivial,by simp⟩
 | t::ts,vs,ds,ps,ht,h,hok=>by
  obtain⟨v,vs1,d,ds1,a,b,rfl,rfl,rfl,h1,h2⟩:=trodAll_cons h
  obtain⟨x,k1,k2,k3⟩:=conv_arg hti hT hZ (ht t (by simp)) (hok 0 t v rfl rfl) h1
  obtain⟨xs,k4,k5⟩:=conv_args hti hT hZ ts vs1 ds1 b (fun t ht'=>ht t (by simp[ht'])) h2 (fun j t v h1 h2=>hok (j+1) t v (by simpa using h1) (by simpa using h2))
  refine⟨x::xs,⟨k1,k2,k4⟩,fun j x' v' hx hv=>?_⟩
  match j with
  | 0=>simp at hx hv;subst hx;subst hv;exact k3
  | j+1=>simp at hx hv;exact k5 j x' v' hx hv
theorem again_all (hl:laidOutB P=true) {W W':World}(hb:Below W.heap.size W W'):∀(ts:List TypeId) (vs:List Value) (ds:List (DataW H)) (ps:List MemPlace),
  (∀t∈ts,P.readableRec t=true∧t<P.types.size)→DataW.TrodAll enc P W 0 (fun _=>true) true ts vs ds ps→(∀x∈ps,x.block<W.heap.size)→
  DataW.TrodAll enc P W' 0 (fun b=>decide (b<W.heap.size)) true ts vs ds ps
 | [],vs,ds,ps,_,h,_=>by
  obtain⟨rfl,rfl,rfl⟩:=trodAll_nil h
  exact rfl
 | t::ts,vs,ds,ps,ht,h,hlt=>by
  obtain⟨v,vs1,d,ds1,a,b,rfl,rfl,rfl,h1,h2⟩:=trodAll_cons h
  have ht1:=ht t (by simp)
  exact⟨a,b,Below.trod hl ht1.1 ht1.2 h1 hb (fun x hx=>hlt x (by simp[hx])),again_all hl hb ts vs1 ds1 b (fun t ht'=>ht t (by simp[ht'])) h2 (fun x hx=>hlt x (by simp[hx])),rfl⟩
theorem law_calls {I:Inv}(hti:TIok P ti) (hT:plainB ti T=true) {s:ChangeSpec}{fn:Func}{f:FuncId}{ts:List TypeId}{bt:TypeId}
  (hp:fn.params.toList=ts) (hv:s.vars=[]) (hr:fn.resultTypes=#[bt]) (hb:P.underlying bt=some .bool) (htT:∀t∈ts,t∈T)
  (hs:∀ds:List (DataW H),ds.length=ts.length→(s.fn H ds).results=[.lit (.bool true)]∧(s.fn H ds).args=ds∧(s.fn H ds).vars=[])
  (hl:laidOutB P=true) (hrec:∀t∈ts,P.readableRec t=true∧t<P.types.size)
  (hc:∀xs:List D,Shapes ti ts xs→Trip P I f (xs.map V1.d) [] (.v (.d (.bool true))) [] [])
  {W:World} {base:Nat} {args:Array Value} {ds gs:List (DataW H)} {before:List MemPlace}
  (hI:I.at W fun _ _=>False) (hval:∀(j:Nat) t v,fn.params[j]?=some t→args[j]?=some v→Value.okWide P W .any base t v)
  (hW:DataW.Whole enc P fn.params.toList s.vars false W args.toList ds gs before):
  Calls P f args W fun e W'=>∃v,e= .returned v∧s.post enc P fn false true false false W args v W':=by
 have hW':=hW
 obtain⟨p,q,hA,hV,rfl,_,_⟩:=hW
 rw[hv]at hV
 obtain⟨rfl,rfl⟩:gs=[]∧q=[]:=by
  cases gs with
  | nil=>exact⟨rfl,hV⟩
  | cons _ _=>exact hV.elim
 rw[hp]at hA
 obtain⟨hlen,hdl⟩:=trodAll_length hA
 obtain⟨xs,hsh,hrel⟩:=conv_args hti hT (Z:=fun _ _=>False) (fun _ _ h=>h) (r:=.any) (base':=base) ts args.toList ds p htT hA (fun j t v h1 h2=>hval j t v (by
  rw[←Array.getElem?_toList,hp];exact h1) (by simpa using h2))
 have hxl:=hsh.length
 have hcall:=hc xs hsh
 have hheap:∀i o,heapOf [] i=some o→False:=by
  intro i o h
  cases i<;>simp[heapOf]at h
 have hzone:∀(g:Ghost) b o,¬zone g (heapOf []) b o:=by
  rintro g b o ⟨i,ob,h,_⟩
  exact hheap i ob h
 refine (hcall.calls (w:=W) (X:=fun _ _=>False) (g:=fun _=>undef) (vals:=args) (fun _ _ h=>h.elim) (hI.mono fun b o hz=>hz.elim (hzone _ b o) id) ⟨fun i o h=>(hheap i o h).elim,fun i _ _ _ _ h=>(hheap i _ h).elim,fun i _ _ _ h=>(hheap i _ h).elim⟩ (fun _=>rfl)
  (by simp at hlen;simp;omega) (fun j x v hx hvv=>?_)).mono ?_
 ·simp only[List.getElem?_map,Option.map_eq_some_iff]at hx
  obtain⟨d,hd,rfl⟩:=hx
  exact (hrel j d v hd (by simpa using hvv)).mono (fun b o u hu _=>⟨hu,fun hz=>hz.elim (hzone _ b o) id⟩)
 ·rintro e W' ⟨v,g',rfl,hpost⟩
  obtain rfl:v= .bool true:=by cases (show RelD _ _ (.bool true) v from hpost.res);rfl
  have hbel:Below W.heap.size W W':=⟨hpost.frame.os,hpost.frame.tape,hpost.frame.output,hpost.frame.size,fun k hk=>hpost.frame.block k hk (fun o=>hzone _ k o)⟩
  obtain⟨s1,s2,s3⟩:=hs (ds++[]) (by simp[hdl])
  refine⟨_,rfl,ds,[],p++[],[],p,[],hW',?_,?_,?_,hbel.frame _,fun h=>by cases h⟩
  ·rw[s1,hr]
   exact trodAll_mk1 (shut_bool hb true)
  ·rw[s2,hp,List.append_nil]
   exact again_all hl hbel ts args.toList ds p hrec hA (fun x hx=>hW'.lt x (by simp[hx]))
  ·rw[s3,hv];rfl
end
end Go.AM
set_option linter.unusedVariables false
noncomputable section
namespace Go.Proofs.Ytiiojajgajnhpaa
open Go Go.AM
mutual
def L93_1:Nat→(List D)→Int→(List D)→Option (List D)
 | 0,_,_,_=>none
 | n+1,l1,z2,l3=>
  lenF l1 fun z4=>(if z2<z4 then L93_2 n l1 z2 l3 true else L93_2 n l1 z2 l3 false)
def L93_2:Nat→(List D)→Int→(List D)→Bool→Option (List D)
 | 0,_,_,_,_=>none
 | n+1,l1,z2,l3,b5=>
  (if b5=true then getF l1 z2 fun x6=>ds_t49 x6 fun z7 z8 s9 l10 z11 l12=>bO6 (F29 n z7 z8 s9 l10 z11 l12) fun z13 z14 s15 z16 l17 l18=>appF 88 l3 ([.agg [.int .u8 z13,.int .i64 z14,.str s15,.list true 6 l17,.int .i64 z16,.list false 1 l18]]) fun l19=>letF (IntKind.wrap .i64 (z2+1)) fun z20=>L93_1 n l1 z20 l19 else some l3)
def F93:Nat→(List D)→Option (List D)
 | 0,_=>none
 | n+1,l1=>
  L93_1 n l1 (0:Int) ([]:List D)
def F29:Nat→Int→Int→ByteArray→(List D)→Int→(List D)→Option (Int×Int×ByteArray×Int×List D×List D)
 | 0,_,_,_,_,_,_=>none
 | n+1,z1,z2,s3,l4,z5,l6=>
  bO1 (F93 n l4) fun l7=>appF 88 ([]:List D) l7 fun l8=>needF (scalB l6=true) (appF 8 ([]:List D) l6 fun l9=>some (z1,z2,s3,z5,l8,l9))
end
theorem G93 (n:Nat):(∀⦃l1:List D⦄ ⦃r1:List D⦄,F93 n l1=some r1→
    Trip Try.prog inv 93 [.d (.list true 6 l1)] [] (.v (.c (.ow (.loc 0)))) [] [.tree .row true 6 r1 none])∧
    (∀⦃z1:Int⦄ ⦃z2:Int⦄ ⦃s3:ByteArray⦄ ⦃l4:List D⦄ ⦃z5:Int⦄ ⦃l6:List D⦄ ⦃r1:Int⦄ ⦃r2:Int⦄ ⦃r3:ByteArray⦄ ⦃r4:Int⦄ ⦃r5:List D⦄ ⦃r6:List D⦄,F29 n z1 z2 s3 l4 z5 l6=some (r1,r2,r3,r4,r5,r6)→
    Trip Try.prog inv 29 [.d (.agg [.int .u8 z1,.int .i64 z2,.str s3,.list true 6 l4,.int .i64 z5,.list false 1 l6])] [] (.v (.agg [.d (.int .u8 r1),.d (.int .i64 r2),.d (.str r3),.ow (.loc 0),.d (.int .i64 r4),.ow (.loc 1)])) [] [.tree .row true 6 r5 none,.tree .row false 1 r6 none]):=by
 induction n using Nat.strongRecOn with | _ n ih=>
 obtain _ | n:=n
 ·refine⟨?_,?_⟩
  ·intro l1 r1 h
   cases (show (none:Option _)=some _ from h)
  intro z1 z2 s3 l4 z5 l6 r1 r2 r3 r4 r5 r6 h
  cases (show (none:Option _)=some _ from h)
 refine⟨?_,?_⟩
 rotate_left
 ·intro z1 z2 s3 l4 z5 l6 r1 r2 r3 r4 r5 r6 h
  rw[F29]at h
  refine Trip.of tab_ok tab_one fol Try.func29 rfl (by kernel_rfl) rfl rfl rfl (fun M hM hI=>?_)
  try cbv
  refine seq_go ?_
  try cbv
  refine seq_go ?_
  try cbv
  refine seq_go ?_
  try cbv
  refine seq_go ?_
  try cbv
  replace h:=bO1_inv h
  obtain⟨l7,hr,h⟩:=h
  first | refine .inr (.inl ⟨[],?_⟩) | refine .inl ⟨[],?_⟩
  try cbv
  refine call_with hM hI [] ((ih _ (by omega)).1 hr) rfl (by simp) trivial trivial (by simp) ?_
  clear hr
  try cbv
  refine⟨true,?_⟩
  try cbv
  refine⟨true,?_⟩
  try cbv
  refine⟨[],?_⟩
  try cbv
  replace h:=appF_inv h
  obtain⟨l8,hb,hz,h⟩:=h
  refine⟨(M.lock_iff _).2 hb,l8,hz,?_⟩
  clear hb hz
  try cbv
  refine drawn ?_ ?_
  ·show _=true
   kernel_rfl
  try cbv
  refine seq_go ?_
  try cbv
  refine⟨true,?_⟩
  try cbv
  refine⟨true,?_⟩
  try cbv
  refine⟨[],?_⟩
  try cbv
  replace h:=needF_inv h
  obtain⟨hs,h⟩:=h
  replace h:=appF_inv h
  obtain⟨l9,hb,hz,h⟩:=h
  refine⟨scalB_iff.1 hs,(M.lock_iff _).2 hb,l9,hz,?_⟩
  clear hs hb hz
  try cbv
  refine seq_go ?_
  try cbv
  obtain⟨rfl,rfl,rfl,rfl,rfl,rfl⟩:=inj6 h
  refine fin_go ?_
  try cbv
  exact⟨[.loc 448,.loc 672],rfl,rfl,trivial,⟨rfl,⟨rfl,trivial⟩⟩,trivial⟩
 intro l1 r1 h
 rw[F93]at h
 refine Trip.of tab_ok tab_one fol Try.func93 rfl (by kernel_rfl) rfl rfl rfl (fun M hM hI=>?_)
 try cbv
 refine seq_go ?_
 try cbv
 refine seq_go ?_
 try cbv
 refine seq_go ?_
 try cbv
 refine seq_go ?_
 try cbv
 refine loop_invG (T:=Nat×Int×List D) [.treeS 3 true 6] [] [0,2,3,4] [.loc 96] 128 (fun t=>⟨[(0,.v (.d (.list true 6 l1))),(2,.v (.c (.nils true 6))),(3,.v (.c (.ow (.loc 96)))),(4,.v (.d (.int .i64 t.2.1)))],[(.loc 96,.tree .row true 6 t.2.2 none)],128⟩)
   (fun t=>t.1≤n∧L93_1 t.1 l1 t.2.1 t.2.2=some r1) (fun t=>t.1) (n,((0:Int),([]:List D))) ⟨Nat.le_refl _,h⟩ (by cbv) ?_
 clear h
 rintro⟨m1,z2,l3⟩ ⟨hm1,h⟩
 replace hm1:m1≤n:=hm1
 obtain _ | m1:=m1
 ·replace h:L93_1 0 l1 z2 l3=some r1:=h
  rw[L93_1]at h
  cases h
 replace h:L93_1 (m1+1) l1 z2 l3=some r1:=h
 rw[L93_1]at h
 try cbv
 refine seq_go ?_
 try cbv
 refine seq_join (T:=Nat×Bool) (fun t=>⟨[(0,.v (.d (.list true 6 l1))),(2,.v (.c (.nils true 6))),(3,.v (.c (.ow (.loc 96)))),(4,.v (.d (.int .i64 z2))),(8,.v (.d (.bool t.2)))],[(.loc 96,.tree .row true 6 l3 none)],256⟩) (fun t=>t.1≤m1∧L93_2 t.1 l1 z2 l3 t.2=some r1) ?_ ?_
 ·try cbv
  replace h:=lenF_inv M h
  obtain⟨z4,hz,h⟩:=h
  refine⟨z4,hz,?_⟩
  clear hz
  try cbv
  refine splitL (fun e=>?_) (fun e=>?_)
  ·replace h:=ite_t e h
   clear e
   try cbv
   exact join_next (m1,true) [0,2,3,4,8] [.loc 96] 256 ⟨by omega,h⟩ (by cbv)
  replace h:=ite_f (Int.not_lt.2 e) h
  clear e
  try cbv
  exact join_next (m1,false) [0,2,3,4,8] [.loc 96] 256 ⟨by omega,h⟩ (by cbv)
 clear h
 rintro⟨m2,b5⟩ ⟨hm2,h⟩
 replace hm2:m2≤m1:=hm2
 obtain _ | m2:=m2
 ·replace h:L93_2 0 l1 z2 l3 b5=some r1:=h
  rw[L93_2]at h
  cases h
 replace h:L93_2 (m2+1) l1 z2 l3 b5=some r1:=h
 rw[L93_2]at h
 try cbv
 cases b5
 ·replace h:=ite_f Bool.false_ne_true h
  try cbv
  refine seq_go ?_
  try cbv
  obtain rfl:=Option.some.inj h
  refine fin_go ?_
  try cbv
  exact⟨[.loc 96],rfl,rfl,trivial,⟨rfl,trivial⟩,trivial⟩
 replace h:=ite_t rfl h
 try cbv
 refine seq_go ?_
 try cbv
 replace h:=getF_inv h
 obtain⟨x6,hx6,h⟩:=h
 replace h:=ds_t49_inv h
 obtain⟨z7,z8,s9,l10,z11,l12,rfl,h⟩:=h
 refine⟨_,hx6.1,hx6.2,?_⟩
 try cbv
 replace h:=bO6_inv h
 obtain⟨z13,z14,s15,z16,l17,l18,hr,h⟩:=h
 refine call_go rfl rfl ?_
 try cbv
 refine call_with hM hI [] ((ih _ (by omega)).2 hr) rfl (by simp) trivial trivial (by simp) ?_
 clear hr
 try cbv
 refine⟨false,?_⟩
 try cbv
 refine⟨false,?_⟩
 try cbv
 refine op_pl ?_
 try cbv
 refine⟨true,?_⟩
 try cbv
 refine⟨true,?_⟩
 try cbv
 refine⟨[],?_⟩
 try cbv
 replace h:=appF_inv h
 obtain⟨l19,hb,hz,h⟩:=h
 refine⟨[.agg [.int .u8 z13,.int .i64 z14,.str s15,.list true 6 l17,.int .i64 z16,.list false 1 l18]],rfl,?_⟩
 try cbv
 refine⟨(M.lock_iff _).2 hb,l19,hz,?_⟩
 clear hb hz
 try cbv
 replace h:=letF_inv h
 obtain⟨z20,hz,h⟩:=h
 refine⟨z20,hz,?_⟩
 clear hz
 try cbv
 refine loop_nextG (m2,(z20,l19)) [] [(480,96)] [0,2,3,4] [.loc 480] 128 ⟨by omega,h⟩ (Nat.lt_succ_of_le (by omega)) ?_
 try cbv
theorem T93 (n:Nat):∀⦃l1:List D⦄ ⦃r1:List D⦄,F93 n l1=some r1→
  Trip Try.prog inv 93 [.d (.list true 6 l1)] [] (.v (.c (.ow (.loc 0)))) [] [.tree .row true 6 r1 none]:=(G93 n).1
theorem T29 (n:Nat):∀⦃z1:Int⦄ ⦃z2:Int⦄ ⦃s3:ByteArray⦄ ⦃l4:List D⦄ ⦃z5:Int⦄ ⦃l6:List D⦄ ⦃r1:Int⦄ ⦃r2:Int⦄ ⦃r3:ByteArray⦄ ⦃r4:Int⦄ ⦃r5:List D⦄ ⦃r6:List D⦄,F29 n z1 z2 s3 l4 z5 l6=some (r1,r2,r3,r4,r5,r6)→
  Trip Try.prog inv 29 [.d (.agg [.int .u8 z1,.int .i64 z2,.str s3,.list true 6 l4,.int .i64 z5,.list false 1 l6])] [] (.v (.agg [.d (.int .u8 r1),.d (.int .i64 r2),.d (.str r3),.ow (.loc 0),.d (.int .i64 r4),.ow (.loc 1)])) [] [.tree .row true 6 r5 none,.tree .row false 1 r6 none]:=(G93 n).2
def F29z (n:Nat) (z1:Int) (z2:Int) (s3:ByteArray) (l4:List D) (z5:Int) (l6:List D):Option (Int×Int×ByteArray×List D×Int×List D):=
 bO1 (F93 n l4) fun l7=>appF 88 ([]:List D) l7 fun l8=>needF (scalB l6=true) (appF 8 ([]:List D) l6 fun l9=>some (z1,z2,s3,l8,z5,l9))
theorem T29z (n:Nat):∀⦃z1:Int⦄ ⦃z2:Int⦄ ⦃s3:ByteArray⦄ ⦃l4:List D⦄ ⦃z5:Int⦄ ⦃l6:List D⦄ ⦃r1:Int⦄ ⦃r2:Int⦄ ⦃r3:ByteArray⦄ ⦃r4:List D⦄ ⦃r5:Int⦄ ⦃r6:List D⦄,F29z n z1 z2 s3 l4 z5 l6=some (r1,r2,r3,r4,r5,r6)→
    Trip Try.prog inv 29 [.d (.agg [.int .u8 z1,.int .i64 z2,.str s3,.list true 6 l4,.int .i64 z5,.list false 1 l6])] [] (.v (.d (.agg [.int .u8 r1,.int .i64 r2,.str r3,.list true 6 r4,.int .i64 r5,.list false 1 r6]))) [] []:=by
 intro z1 z2 s3 l4 z5 l6 r1 r2 r3 r4 r5 r6 h
 unfold F29z at h
 refine Trip.of tab_ok tab_one fol Try.func29 rfl (by kernel_rfl) rfl rfl rfl (fun M hM hI=>?_)
 try cbv
 refine seq_go ?_
 try cbv
 refine seq_go ?_
 try cbv
 refine seq_go ?_
 try cbv
 refine seq_go ?_
 try cbv
 replace h:=bO1_inv h
 obtain⟨l7,hr,h⟩:=h
 first | refine .inr (.inl ⟨[],?_⟩) | refine .inl ⟨[],?_⟩
 try cbv
 refine call_with hM hI [] (T93 _ hr) rfl (by simp) trivial trivial (by simp) ?_
 clear hr
 try cbv
 refine⟨true,?_⟩
 try cbv
 refine⟨true,?_⟩
 try cbv
 refine⟨[],?_⟩
 try cbv
 replace h:=appF_inv h
 obtain⟨l8,hb,hz,h⟩:=h
 refine⟨(M.lock_iff _).2 hb,l8,hz,?_⟩
 clear hb hz
 try cbv
 refine drawn ?_ ?_
 ·show _=true
  kernel_rfl
 try cbv
 refine seq_go ?_
 try cbv
 refine⟨true,?_⟩
 try cbv
 refine⟨true,?_⟩
 try cbv
 refine⟨[],?_⟩
 try cbv
 replace h:=needF_inv h
 obtain⟨hs,h⟩:=h
 replace h:=appF_inv h
 obtain⟨l9,hb,hz,h⟩:=h
 refine⟨scalB_iff.1 hs,(M.lock_iff _).2 hb,l9,hz,?_⟩
 clear hs hb hz
 try cbv
 refine seq_go ?_
 try cbv
 obtain⟨rfl,rfl,rfl,rfl,rfl,rfl⟩:=inj6 h
 refine⟨_,_,_,⟨rfl,rfl,rfl⟩,[.freeze (.loc 448),.freeze (.loc 672)],?_⟩
 try cbv
 exact⟨[],rfl,rfl,trivial,trivial,trivial⟩
def L112_1:Nat→Int→Int→ByteArray→(List D)→Int→(List D)→(List D)→Bool→Option (((List D) ⊕ (Int×List D)))
 | 0,_,_,_,_,_,_,_,_=>none
 | n+1,z1,z2,s3,l4,z5,l6,l7,b9=>
  (if b9=true then some (.inl l7)else bO6 (F29z n z1 z2 s3 l4 z5 l6) fun z10 z11 s12 l13 z14 l15=>appF 96 l7 ([.agg [.int .u8 z10,.int .i64 z11,.str s12,.list true 6 l13,.int .i64 z14,.list false 1 l15,.bool false]]) fun l16=>lenF l16 fun z17=>letF (IntKind.wrap .i64 (z17 - 1)) fun z18=>some (.inr (z18,l16)))
def F112 (n:Nat) (z1:Int) (z2:Int) (s3:ByteArray) (l4:List D) (z5:Int) (l6:List D) (l7:List D):Option (((List D) ⊕ (Int×List D))):=
 lenF l7 fun z8=>(if (1000:Int)≤z8 then L112_1 n z1 z2 s3 l4 z5 l6 l7 true else L112_1 n z1 z2 s3 l4 z5 l6 l7 false)
theorem T112 (n:Nat):∀⦃z1:Int⦄ ⦃z2:Int⦄ ⦃s3:ByteArray⦄ ⦃l4:List D⦄ ⦃z5:Int⦄ ⦃l6:List D⦄ ⦃l7:List D⦄ ⦃r:((List D) ⊕ (Int×List D))⦄,F112 n z1 z2 s3 l4 z5 l6 l7=some r→∀Q:AV→List AObj→List AObj→Prop,(match r with | .inl r1=>Q (.t [.d (.int .i64 0),.d (.int .i64 4)]) [.cells [.ow (.ext 1)],.tree .flat true 7 r1 none] [] | .inr (r1,r2)=>Q (.t [.d (.int .i64 r1),.d (.int .i64 0)]) [.cells [.ow (.loc 0)],.gone] [.tree .flat true 7 r2 none])→
    TripK Try.prog inv 112 [.c (.ptr (.ext 0) 0),.d (.agg [.int .u8 z1,.int .i64 z2,.str s3,.list true 6 l4,.int .i64 z5,.list false 1 l6])] [.cells [.ow (.ext 1)],.tree .flat true 7 l7 none] Q:=by
 intro z1 z2 s3 l4 z5 l6 l7 r h Q hQ
 unfold F112 at h
 refine TripK.of tab_ok tab_one fol Try.func112 rfl (by kernel_rfl) rfl rfl rfl (fun M hM hI=>?_)
 try cbv
 refine seq_go ?_
 try cbv
 refine seq_go ?_
 try cbv
 refine seq_join (T:=Nat×Bool) (fun t=>⟨[(0,.v (.c (.ptr (.ext 0) 0))),(3,.v (.c (.ptr (.loc 0) 0))),(4,.v (.d (.int .i64 0))),(5,.v (.d (.int .i64 0))),(11,.v (.d (.bool t.2)))],[(.ext 0,.cells [.ow (.ext 1)]),(.ext 1,.tree .flat true 7 l7 none),(.loc 0,.cells [.d (.int .u8 z1),.d (.int .i64 z2),.d (.str s3),.d (.list true 6 l4),.d (.int .i64 z5),.d (.list false 1 l6)])],288⟩) (fun t=>t.1≤n∧L112_1 t.1 z1 z2 s3 l4 z5 l6 l7 t.2=some r) ?_ ?_
 ·try cbv
  replace h:=lenF_inv M h
  obtain⟨z8,hz,h⟩:=h
  refine⟨z8,hz,?_⟩
  clear hz
  try cbv
  refine splitLe (fun e=>?_) (fun e=>?_)
  ·replace h:=ite_t e h
   clear e
   try cbv
   exact join_next (n,true) [0,3,4,5,11] [.ext 0,.ext 1,.loc 0] 288 ⟨by omega,h⟩ (by cbv)
  replace h:=ite_f (Int.not_le.2 e) h
  clear e
  try cbv
  exact join_next (n,false) [0,3,4,5,11] [.ext 0,.ext 1,.loc 0] 288 ⟨by omega,h⟩ (by cbv)
 clear h
 rintro⟨m1,b9⟩ ⟨hm1,h⟩
 replace hm1:m1≤n:=hm1
 obtain _ | m1:=m1
 ·replace h:L112_1 0 z1 z2 s3 l4 z5 l6 l7 b9=some r:=h
  rw[L112_1]at h
  cases h
 replace h:L112_1 (m1+1) z1 z2 s3 l4 z5 l6 l7 b9=some r:=h
 rw[L112_1]at h
 try cbv
 cases b9
 rotate_left
 ·replace h:=ite_t rfl h
  try cbv
  refine seq_go ?_
  try cbv
  obtain rfl:=Option.some.inj h
  refine finQ_go hQ ?_
  try cbv
  exact⟨[],rfl,rfl,⟨rfl,⟨rfl,trivial⟩⟩,trivial,trivial⟩
 replace h:=ite_f Bool.false_ne_true h
 try cbv
 refine seq_go ?_
 try cbv
 replace h:=bO6_inv h
 obtain⟨z10,z11,s12,l13,z14,l15,hr,h⟩:=h
 first | refine .inr (.inl ⟨[],?_⟩) | refine .inl ⟨[],?_⟩
 try cbv
 refine call_pure hM hI (T29z _ hr) rfl ?_
 clear hr
 try cbv
 refine⟨false,?_⟩
 try cbv
 refine⟨true,?_⟩
 try cbv
 replace h:=appF_inv h
 obtain⟨l16,hb,hz,h⟩:=h
 refine⟨true,?_⟩
 try cbv
 refine⟨false,?_⟩
 try cbv
 refine⟨(M.lock_iff _).2 hb,l16,hz,?_⟩
 clear hb hz
 try cbv
 refine drawn ?_ ?_
 ·show _=true
  kernel_rfl
 try cbv
 refine seq_go ?_
 try cbv
 replace h:=lenF_inv M h
 obtain⟨z17,hz,h⟩:=h
 refine⟨z17,hz,?_⟩
 clear hz
 try cbv
 replace h:=letF_inv h
 obtain⟨z18,hz,h⟩:=h
 refine⟨z18,hz,?_⟩
 clear hz
 try cbv
 obtain rfl:=Option.some.inj h
 refine finQ_go hQ ?_
 try cbv
 exact⟨[.loc 576],rfl,rfl,⟨rfl,trivial⟩,⟨rfl,trivial⟩,trivial⟩
def L96_2:Nat→Bool→Option (Int)
 | 0,_=>none
 | n+1,b11=>
  (if b11=true then some (6:Int)else some (0:Int))
def L96_1:Nat→Int→(List D)→Int→Bool→Option (Int)
 | 0,_,_,_,_=>none
 | n+1,z1,l4,z7,b8=>
  (if b8=true then some (3:Int)else (if z1=(4:Int)then (if z7<(0:Int)then L96_2 n true else lenF l4 fun z9=>(if z9≤z7 then L96_2 n true else L96_2 n false))else (if z1=(5:Int)then (if z7<(0:Int)then L96_2 n true else lenF l4 fun z10=>(if z10≤z7 then L96_2 n true else L96_2 n false))else L96_2 n true)))
def F96 (n:Nat) (z1:Int) (z2:Int) (s3:ByteArray) (l4:List D) (z5:Int) (l6:List D) (z7:Int):Option (Int):=
 (if z1=(0:Int)then L96_1 n z1 l4 z7 true else L96_1 n z1 l4 z7 false)
theorem T96 (n:Nat):∀⦃z1:Int⦄ ⦃z2:Int⦄ ⦃s3:ByteArray⦄ ⦃l4:List D⦄ ⦃z5:Int⦄ ⦃l6:List D⦄ ⦃z7:Int⦄ ⦃r1:Int⦄,F96 n z1 z2 s3 l4 z5 l6 z7=some r1→
    Trip Try.prog inv 96 [.d (.agg [.int .u8 z1,.int .i64 z2,.str s3,.list true 6 l4,.int .i64 z5,.list false 1 l6]),.d (.int .i64 z7)] [] (.v (.d (.int .i64 r1))) [] []:=by
 intro z1 z2 s3 l4 z5 l6 z7 r1 h
 unfold F96 at h
 refine Trip.of tab_ok tab_one fol Try.func96 rfl (by kernel_rfl) rfl rfl rfl (fun M hM hI=>?_)
 try cbv
 refine seq_go ?_
 try cbv
 refine seq_go ?_
 try cbv
 refine seq_join (T:=Nat×Bool) (fun t=>⟨[(1,.v (.d (.int .i64 z7))),(2,.v (.c (.ptr (.loc 0) 0))),(4,.v (.d (.int .i64 0))),(7,.v (.d (.bool t.2)))],[(.loc 0,.cells [.d (.int .u8 z1),.d (.int .i64 z2),.d (.str s3),.d (.list true 6 l4),.d (.int .i64 z5),.d (.list false 1 l6)])],160⟩) (fun t=>t.1≤n∧L96_1 t.1 z1 l4 z7 t.2=some r1) ?_ ?_
 ·try cbv
  refine splitI (fun e=>?_) (fun e=>?_)
  ·replace h:=ite_t e h
   clear e
   try cbv
   exact join_next (n,true) [1,2,4,7] [.loc 0] 160 ⟨by omega,h⟩ (by cbv)
  replace h:=ite_f e h
  clear e
  try cbv
  exact join_next (n,false) [1,2,4,7] [.loc 0] 160 ⟨by omega,h⟩ (by cbv)
 clear h
 rintro⟨m1,b8⟩ ⟨hm1,h⟩
 replace hm1:m1≤n:=hm1
 obtain _ | m1:=m1
 ·replace h:L96_1 0 z1 l4 z7 b8=some r1:=h
  rw[L96_1]at h
  cases h
 replace h:L96_1 (m1+1) z1 l4 z7 b8=some r1:=h
 rw[L96_1]at h
 try cbv
 cases b8
 rotate_left
 ·replace h:=ite_t rfl h
  try cbv
  refine seq_go ?_
  try cbv
  obtain rfl:=Option.some.inj h
  refine fin_go ?_
  try cbv
  exact⟨[],rfl,rfl,trivial,trivial,trivial⟩
 replace h:=ite_f Bool.false_ne_true h
 try cbv
 refine seq_go ?_
 try cbv
 refine seq_join (T:=Nat×Bool) (fun t=>⟨[(4,.v (.d (.int .i64 0))),(26,.v (.d (.bool t.2)))],[],768⟩) (fun t=>t.1≤m1∧L96_2 t.1 t.2=some r1) ?_ ?_
 rotate_left
 ·clear h
  rintro⟨m2,b11⟩ ⟨hm2,h⟩
  replace hm2:m2≤m1:=hm2
  obtain _ | m2:=m2
  ·replace h:L96_2 0 b11=some r1:=h
   rw[L96_2]at h
   cases h
  replace h:L96_2 (m2+1) b11=some r1:=h
  rw[L96_2]at h
  try cbv
  cases b11
  ·replace h:=ite_f Bool.false_ne_true h
   try cbv
   refine seq_go ?_
   try cbv
   obtain rfl:=Option.some.inj h
   refine fin_go ?_
   try cbv
   exact⟨[],rfl,rfl,trivial,trivial,trivial⟩
  replace h:=ite_t rfl h
  try cbv
  refine seq_go ?_
  try cbv
  obtain rfl:=Option.some.inj h
  refine fin_go ?_
  try cbv
  exact⟨[],rfl,rfl,trivial,trivial,trivial⟩
 try cbv
 refine splitI (fun e=>?_) (fun e=>?_)
 ·replace h:=ite_t e h
  clear e
  try cbv
  refine splitL (fun e=>?_) (fun e=>?_)
  ·replace h:=ite_t e h
   clear e
   try cbv
   exact join_next (m1,true) [4,26] [] 768 ⟨by omega,h⟩ (by cbv)
  replace h:=ite_f (Int.not_lt.2 e) h
  clear e
  try cbv
  replace h:=lenF_inv M h
  obtain⟨z9,hz,h⟩:=h
  refine⟨z9,hz,?_⟩
  clear hz
  try cbv
  refine splitLe (fun e=>?_) (fun e=>?_)
  ·replace h:=ite_t e h
   clear e
   try cbv
   exact join_next (m1,true) [4,26] [] 768 ⟨by omega,h⟩ (by cbv)
  replace h:=ite_f (Int.not_le.2 e) h
  clear e
  try cbv
  exact join_next (m1,false) [4,26] [] 768 ⟨by omega,h⟩ (by cbv)
 replace h:=ite_f e h
 clear e
 try cbv
 refine splitI (fun e=>?_) (fun e=>?_)
 rotate_left
 ·replace h:=ite_f e h
  clear e
  try cbv
  exact join_next (m1,true) [4,26] [] 768 ⟨by omega,h⟩ (by cbv)
 replace h:=ite_t e h
 clear e
 try cbv
 refine splitL (fun e=>?_) (fun e=>?_)
 ·replace h:=ite_t e h
  clear e
  try cbv
  exact join_next (m1,true) [4,26] [] 768 ⟨by omega,h⟩ (by cbv)
 replace h:=ite_f (Int.not_lt.2 e) h
 clear e
 try cbv
 replace h:=lenF_inv M h
 obtain⟨z10,hz,h⟩:=h
 refine⟨z10,hz,?_⟩
 clear hz
 try cbv
 refine splitLe (fun e=>?_) (fun e=>?_)
 ·replace h:=ite_t e h
  clear e
  try cbv
  exact join_next (m1,true) [4,26] [] 768 ⟨by omega,h⟩ (by cbv)
 replace h:=ite_f (Int.not_le.2 e) h
 clear e
 try cbv
 exact join_next (m1,false) [4,26] [] 768 ⟨by omega,h⟩ (by cbv)
mutual
def L31_1:Nat→Int→Int→ByteArray→(List D)→Int→(List D)→(List D)→Bool→Option (Int×Int×ByteArray×List D×Int×List D×Int)
 | 0,_,_,_,_,_,_,_,_=>none
 | n+1,z1,z2,s3,l4,z5,l6,l7,b9=>
  (if b9=true then (if z1=(0:Int)then L31_2 n z1 z2 s3 l4 z5 l6 true else L31_2 n z1 z2 s3 l4 z5 l6 false)else getF l7 0 fun x17=>ds_i64 x17 fun z18=>bO1 (F96 n z1 z2 s3 l4 z5 l6 z18) fun z19=>(if z19=(0:Int)then L31_3 n l4 l7 z18 z19 false else L31_3 n l4 l7 z18 z19 true))
def L31_2:Nat→Int→Int→ByteArray→(List D)→Int→(List D)→Bool→Option (Int×Int×ByteArray×List D×Int×List D×Int)
 | 0,_,_,_,_,_,_,_=>none
 | n+1,z1,z2,s3,l4,z5,l6,b10=>
  (if b10=true then some ((0:Int),(0:Int),ByteArray.empty,([]:List D),(0:Int),([]:List D),(3:Int))else bO6 (F29z n z1 z2 s3 l4 z5 l6) fun z11 z12 s13 l14 z15 l16=>some (z11,z12,s13,l14,z15,l16,(0:Int)))
def L31_3:Nat→(List D)→(List D)→Int→Int→Bool→Option (Int×Int×ByteArray×List D×Int×List D×Int)
 | 0,_,_,_,_,_=>none
 | n+1,l4,l7,z18,z19,b20=>
  (if b20=true then some ((0:Int),(0:Int),ByteArray.empty,([]:List D),(0:Int),([]:List D),z19)else getF l4 z18 fun x21=>ds_t49 x21 fun z22 z23 s24 l25 z26 l27=>fromF l7 (1:Int) fun l28=>bO7 (F31 n z22 z23 s24 l25 z26 l27 l28) fun z29 z30 s31 l32 z33 l34 z35=>some (z29,z30,s31,l32,z33,l34,z35))
def F31:Nat→Int→Int→ByteArray→(List D)→Int→(List D)→(List D)→Option (Int×Int×ByteArray×List D×Int×List D×Int)
 | 0,_,_,_,_,_,_,_=>none
 | n+1,z1,z2,s3,l4,z5,l6,l7=>
  lenF l7 fun z8=>(if z8=(0:Int)then L31_1 n z1 z2 s3 l4 z5 l6 l7 true else L31_1 n z1 z2 s3 l4 z5 l6 l7 false)
end
theorem T31 (n:Nat):∀⦃z1:Int⦄ ⦃z2:Int⦄ ⦃s3:ByteArray⦄ ⦃l4:List D⦄ ⦃z5:Int⦄ ⦃l6:List D⦄ ⦃l7:List D⦄ ⦃r1:Int⦄ ⦃r2:Int⦄ ⦃r3:ByteArray⦄ ⦃r4:List D⦄ ⦃r5:Int⦄ ⦃r6:List D⦄ ⦃r7:Int⦄,F31 n z1 z2 s3 l4 z5 l6 l7=some (r1,r2,r3,r4,r5,r6,r7)→
    Trip Try.prog inv 31 [.d (.agg [.int .u8 z1,.int .i64 z2,.str s3,.list true 6 l4,.int .i64 z5,.list false 1 l6]),.d (.list false 1 l7)] [] (.t [.d (.agg [.int .u8 r1,.int .i64 r2,.str r3,.list true 6 r4,.int .i64 r5,.list false 1 r6]),.d (.int .i64 r7)]) [] []:=by
 induction n using Nat.strongRecOn with | _ n ih=>
 obtain _ | n:=n
 ·intro z1 z2 s3 l4 z5 l6 l7 r1 r2 r3 r4 r5 r6 r7 h
  cases (show (none:Option _)=some _ from h)
 intro z1 z2 s3 l4 z5 l6 l7 r1 r2 r3 r4 r5 r6 r7 h
 rw[F31]at h
 refine Trip.of tab_ok tab_one fol Try.func31 rfl (by kernel_rfl) rfl rfl rfl (fun M hM hI=>?_)
 try cbv
 refine seq_go ?_
 try cbv
 refine seq_go ?_
 try cbv
 refine seq_join (T:=Nat×Bool) (fun t=>⟨[(1,.v (.d (.list false 1 l7))),(2,.v (.c (.ptr (.loc 0) 0))),(4,.v (.c (.ptr (.loc 32) 0))),(5,.v (.d (.int .i64 0))),(9,.v (.d (.bool t.2)))],[(.loc 0,.cells [.d (.int .u8 z1),.d (.int .i64 z2),.d (.str s3),.d (.list true 6 l4),.d (.int .i64 z5),.d (.list false 1 l6)]),(.loc 32,.cells [.d (.int .u8 0),.d (.int .i64 0),.d (.str ByteArray.empty),.nils true 6,.d (.int .i64 0),.nils false 1])],192⟩) (fun t=>t.1≤n∧L31_1 t.1 z1 z2 s3 l4 z5 l6 l7 t.2=some (r1,r2,r3,r4,r5,r6,r7)) ?_ ?_
 ·try cbv
  replace h:=lenF_inv M h
  obtain⟨z8,hz,h⟩:=h
  refine⟨z8,hz,?_⟩
  clear hz
  try cbv
  refine splitI (fun e=>?_) (fun e=>?_)
  ·replace h:=ite_t e h
   clear e
   try cbv
   exact join_next (n,true) [1,2,4,5,9] [.loc 0,.loc 32] 192 ⟨by omega,h⟩ (by cbv)
  replace h:=ite_f e h
  clear e
  try cbv
  exact join_next (n,false) [1,2,4,5,9] [.loc 0,.loc 32] 192 ⟨by omega,h⟩ (by cbv)
 clear h
 rintro⟨m1,b9⟩ ⟨hm1,h⟩
 replace hm1:m1≤n:=hm1
 obtain _ | m1:=m1
 ·replace h:L31_1 0 z1 z2 s3 l4 z5 l6 l7 b9=some (r1,r2,r3,r4,r5,r6,r7):=h
  rw[L31_1]at h
  cases h
 replace h:L31_1 (m1+1) z1 z2 s3 l4 z5 l6 l7 b9=some (r1,r2,r3,r4,r5,r6,r7):=h
 rw[L31_1]at h
 try cbv
 cases b9
 rotate_left
 ·replace h:=ite_t rfl h
  try cbv
  refine seq_go ?_
  try cbv
  refine seq_join (T:=Nat×Bool) (fun t=>⟨[(1,.v (.d (.list false 1 l7))),(2,.v (.c (.ptr (.loc 0) 0))),(4,.v (.c (.ptr (.loc 32) 0))),(5,.v (.d (.int .i64 0))),(12,.v (.d (.bool t.2)))],[(.loc 0,.cells [.d (.int .u8 z1),.d (.int .i64 z2),.d (.str s3),.d (.list true 6 l4),.d (.int .i64 z5),.d (.list false 1 l6)]),(.loc 32,.cells [.d (.int .u8 0),.d (.int .i64 0),.d (.str ByteArray.empty),.nils true 6,.d (.int .i64 0),.nils false 1])],288⟩) (fun t=>t.1≤m1∧L31_2 t.1 z1 z2 s3 l4 z5 l6 t.2=some (r1,r2,r3,r4,r5,r6,r7)) ?_ ?_
  ·try cbv
   refine splitI (fun e=>?_) (fun e=>?_)
   ·replace h:=ite_t e h
    clear e
    try cbv
    exact join_next (m1,true) [1,2,4,5,12] [.loc 0,.loc 32] 288 ⟨by omega,h⟩ (by cbv)
   replace h:=ite_f e h
   clear e
   try cbv
   exact join_next (m1,false) [1,2,4,5,12] [.loc 0,.loc 32] 288 ⟨by omega,h⟩ (by cbv)
  clear h
  rintro⟨m2,b10⟩ ⟨hm2,h⟩
  replace hm2:m2≤m1:=hm2
  obtain _ | m2:=m2
  ·replace h:L31_2 0 z1 z2 s3 l4 z5 l6 b10=some (r1,r2,r3,r4,r5,r6,r7):=h
   rw[L31_2]at h
   cases h
  replace h:L31_2 (m2+1) z1 z2 s3 l4 z5 l6 b10=some (r1,r2,r3,r4,r5,r6,r7):=h
  rw[L31_2]at h
  try cbv
  cases b10
  ·replace h:=ite_f Bool.false_ne_true h
   try cbv
   refine seq_go ?_
   try cbv
   replace h:=bO6_inv h
   obtain⟨z11,z12,s13,l14,z15,l16,hr,h⟩:=h
   refine call_go rfl rfl ?_
   try cbv
   refine call_pure hM hI (T29z _ hr) rfl ?_
   clear hr
   try cbv
   obtain⟨rfl,rfl,rfl,rfl,rfl,rfl,rfl⟩:=inj7 h
   refine fin_go ?_
   try cbv
   exact⟨[],rfl,rfl,trivial,trivial,trivial⟩
  replace h:=ite_t rfl h
  try cbv
  refine seq_go ?_
  try cbv
  obtain⟨rfl,rfl,rfl,rfl,rfl,rfl,rfl⟩:=inj7 h
  refine⟨_,_,_,⟨rfl,rfl,rfl⟩,[.treeC (.loc 32) 3 true 6,.treeC (.loc 32) 5 false 1,.freeze (.loc 384),.freeze (.loc 416)],?_⟩
  try cbv
  exact⟨[],rfl,rfl,trivial,trivial,trivial⟩
 replace h:=ite_f Bool.false_ne_true h
 try cbv
 refine seq_go ?_
 try cbv
 replace h:=getF_inv h
 obtain⟨x17,hx17,h⟩:=h
 replace h:=ds_i64_inv h
 obtain⟨z18,rfl,h⟩:=h
 refine⟨_,hx17.1,hx17.2,?_⟩
 try cbv
 replace h:=bO1_inv h
 obtain⟨z19,hr,h⟩:=h
 first | refine .inr (.inl ⟨[],?_⟩) | refine .inl ⟨[],?_⟩
 try cbv
 refine call_pure hM hI (T96 _ hr) rfl ?_
 clear hr
 try cbv
 refine drawn ?_ ?_
 ·show _=true
  kernel_rfl
 try cbv
 refine seq_go ?_
 try cbv
 refine seq_join (T:=Nat×Bool) (fun t=>⟨[(1,.v (.d (.list false 1 l7))),(2,.v (.c (.ptr (.loc 0) 0))),(4,.v (.c (.ptr (.loc 32) 0))),(5,.v (.d (.int .i64 0))),(6,.v (.d (.int .i64 z19))),(22,.v (.d (.bool t.2)))],[(.loc 0,.cells [.d (.int .u8 z1),.d (.int .i64 z2),.d (.str s3),.d (.list true 6 l4),.d (.int .i64 z5),.d (.list false 1 l6)]),(.loc 32,.cells [.d (.int .u8 0),.d (.int .i64 0),.d (.str ByteArray.empty),.nils true 6,.d (.int .i64 0),.nils false 1])],448⟩) (fun t=>t.1≤m1∧L31_3 t.1 l4 l7 z18 z19 t.2=some (r1,r2,r3,r4,r5,r6,r7)) ?_ ?_
 ·try cbv
  refine splitI (fun e=>?_) (fun e=>?_)
  ·replace h:=ite_t e h
   clear e
   try cbv
   exact join_next (m1,false) [1,2,4,5,6,22] [.loc 0,.loc 32] 448 ⟨by omega,h⟩ (by cbv)
  replace h:=ite_f e h
  clear e
  try cbv
  exact join_next (m1,true) [1,2,4,5,6,22] [.loc 0,.loc 32] 448 ⟨by omega,h⟩ (by cbv)
 clear h
 rintro⟨m3,b20⟩ ⟨hm3,h⟩
 replace hm3:m3≤m1:=hm3
 obtain _ | m3:=m3
 ·replace h:L31_3 0 l4 l7 z18 z19 b20=some (r1,r2,r3,r4,r5,r6,r7):=h
  rw[L31_3]at h
  cases h
 replace h:L31_3 (m3+1) l4 l7 z18 z19 b20=some (r1,r2,r3,r4,r5,r6,r7):=h
 rw[L31_3]at h
 try cbv
 cases b20
 rotate_left
 ·replace h:=ite_t rfl h
  try cbv
  refine seq_go ?_
  try cbv
  obtain⟨rfl,rfl,rfl,rfl,rfl,rfl,rfl⟩:=inj7 h
  refine⟨_,_,_,⟨rfl,rfl,rfl⟩,[.treeC (.loc 32) 3 true 6,.treeC (.loc 32) 5 false 1,.freeze (.loc 576),.freeze (.loc 608)],?_⟩
  try cbv
  exact⟨[],rfl,rfl,trivial,trivial,trivial⟩
 replace h:=ite_f Bool.false_ne_true h
 try cbv
 refine seq_go ?_
 try cbv
 refine⟨_,hx17.1,hx17.2,?_⟩
 try cbv
 replace h:=getF_inv h
 obtain⟨x21,hx21,h⟩:=h
 replace h:=ds_t49_inv h
 obtain⟨z22,z23,s24,l25,z26,l27,rfl,h⟩:=h
 refine⟨_,hx21.1,hx21.2,?_⟩
 try cbv
 replace h:=fromF_inv M h
 obtain⟨l28,hb,hz,h⟩:=h
 refine⟨l28,hb,hz,?_⟩
 clear hb hz
 try cbv
 replace h:=bO7_inv h
 obtain⟨z29,z30,s31,l32,z33,l34,z35,hr,h⟩:=h
 first | refine .inr (.inl ⟨[],?_⟩) | refine .inl ⟨[],?_⟩
 try cbv
 refine call_pure hM hI ((ih _ (by omega)) hr) rfl ?_
 clear hr
 try cbv
 refine drawn ?_ ?_
 ·show _=true
  kernel_rfl
 try cbv
 obtain⟨rfl,rfl,rfl,rfl,rfl,rfl,rfl⟩:=inj7 h
 refine fin_go ?_
 try cbv
 exact⟨[],rfl,rfl,trivial,trivial,trivial⟩
def L64_1:Nat→Int→(List D)→Bool→Option (Int×List D)
 | 0,_,_,_=>none
 | n+1,z1,l2,b4=>
  (if b4=true then some ((6:Int),l2)else needF (0≤z1∧z1.toNat<l2.length) (getN l2 (z1.toNat) fun x5=>ds_t183 x5 fun z6 z7 s8 l9 z10 l11 b12=>(if b12=true then some ((1:Int),l2)else some ((0:Int),l2))))
def F64 (n:Nat) (z1:Int) (l2:List D):Option (Int×List D):=
 (if z1<(0:Int)then L64_1 n z1 l2 true else lenF l2 fun z3=>(if z3≤z1 then L64_1 n z1 l2 true else L64_1 n z1 l2 false))
theorem T64 (n:Nat):∀⦃z1:Int⦄ ⦃l2:List D⦄ ⦃r1:Int⦄ ⦃r2:List D⦄,F64 n z1 l2=some (r1,r2)→
    Trip Try.prog inv 64 [.c (.ptr (.ext 0) 0),.d (.int .i64 z1)] [.cells [.ow (.ext 1)],.tree .flat true 7 l2 none] (.v (.d (.int .i64 r1))) [.cells [.ow (.ext 1)],.tree .flat true 7 r2 none] []:=by
 intro z1 l2 r1 r2 h
 unfold F64 at h
 refine Trip.of tab_ok tab_one fol Try.func64 rfl (by kernel_rfl) rfl rfl rfl (fun M hM hI=>?_)
 try cbv
 refine seq_go ?_
 try cbv
 refine seq_go ?_
 try cbv
 refine seq_join (T:=Nat×Bool) (fun t=>⟨[(0,.v (.c (.ptr (.ext 0) 0))),(1,.v (.d (.int .i64 z1))),(4,.v (.d (.int .i64 0))),(15,.v (.d (.bool t.2)))],[(.ext 0,.cells [.ow (.ext 1)]),(.ext 1,.tree .flat true 7 l2 none)],384⟩) (fun t=>t.1≤n∧L64_1 t.1 z1 l2 t.2=some (r1,r2)) ?_ ?_
 ·try cbv
  refine splitL (fun e=>?_) (fun e=>?_)
  ·replace h:=ite_t e h
   clear e
   try cbv
   exact join_next (n,true) [0,1,4,15] [.ext 0,.ext 1] 384 ⟨by omega,h⟩ (by cbv)
  replace h:=ite_f (Int.not_lt.2 e) h
  clear e
  try cbv
  replace h:=lenF_inv M h
  obtain⟨z3,hz,h⟩:=h
  refine⟨z3,hz,?_⟩
  clear hz
  try cbv
  refine splitLe (fun e=>?_) (fun e=>?_)
  ·replace h:=ite_t e h
   clear e
   try cbv
   exact join_next (n,true) [0,1,4,15] [.ext 0,.ext 1] 384 ⟨by omega,h⟩ (by cbv)
  replace h:=ite_f (Int.not_le.2 e) h
  clear e
  try cbv
  exact join_next (n,false) [0,1,4,15] [.ext 0,.ext 1] 384 ⟨by omega,h⟩ (by cbv)
 clear h
 rintro⟨m1,b4⟩ ⟨hm1,h⟩
 replace hm1:m1≤n:=hm1
 obtain _ | m1:=m1
 ·replace h:L64_1 0 z1 l2 b4=some (r1,r2):=h
  rw[L64_1]at h
  cases h
 replace h:L64_1 (m1+1) z1 l2 b4=some (r1,r2):=h
 rw[L64_1]at h
 try cbv
 cases b4
 rotate_left
 ·replace h:=ite_t rfl h
  try cbv
  refine seq_go ?_
  try cbv
  obtain⟨rfl,rfl⟩:=inj2 h
  refine fin_go ?_
  try cbv
  exact⟨[],rfl,rfl,⟨rfl,⟨rfl,trivial⟩⟩,trivial,trivial⟩
 replace h:=ite_f Bool.false_ne_true h
 try cbv
 refine seq_go ?_
 try cbv
 refine seq_go ?_
 try cbv
 replace h:=needF_inv h
 obtain⟨hn,h⟩:=h
 refine⟨(M.lock_iff _).2 hn,?_⟩
 clear hn
 try cbv
 replace h:=getN_inv h
 obtain⟨x5,hx,h⟩:=h
 replace h:=ds_t183_inv h
 obtain⟨z6,z7,s8,l9,z10,l11,b12,rfl,h⟩:=h
 refine⟨_,hx,?_⟩
 clear hx
 try cbv
 cases b12
 ·replace h:=ite_f Bool.false_ne_true h
  try cbv
  refine seq_go ?_
  try cbv
  obtain⟨rfl,rfl⟩:=inj2 h
  refine fin_go ?_
  try cbv
  exact⟨[],rfl,rfl,⟨rfl,⟨rfl,trivial⟩⟩,trivial,trivial⟩
 replace h:=ite_t rfl h
 try cbv
 refine seq_go ?_
 try cbv
 obtain⟨rfl,rfl⟩:=inj2 h
 refine fin_go ?_
 try cbv
 exact⟨[],rfl,rfl,⟨rfl,⟨rfl,trivial⟩⟩,trivial,trivial⟩
def L113_1:Nat→Int→(List D)→Int→(List D)→Bool→Option (Int×Int×ByteArray×List D×Int×List D×Int×List D)
 | 0,_,_,_,_,_=>none
 | n+1,z1,l2,z4,l5,b6=>
  (if b6=true then some ((0:Int),(0:Int),ByteArray.empty,([]:List D),(0:Int),([]:List D),z4,l5)else needF (0≤z1∧z1.toNat<l5.length) (getN l5 (z1.toNat) fun x7=>ds_t183 x7 fun z8 z9 s10 l11 z12 l13 b14=>bO7 (F31 n z8 z9 s10 l11 z12 l13 l2) fun z15 z16 s17 l18 z19 l20 z21=>some (z15,z16,s17,l18,z19,l20,z21,l5)))
def F113 (n:Nat) (z1:Int) (l2:List D) (l3:List D):Option (Int×Int×ByteArray×List D×Int×List D×Int×List D):=
 bO2 (F64 n z1 l3) fun z4 l5=>(if z4=(0:Int)then L113_1 n z1 l2 z4 l5 false else L113_1 n z1 l2 z4 l5 true)
theorem T113 (n:Nat):∀⦃z1:Int⦄ ⦃l2:List D⦄ ⦃l3:List D⦄ ⦃r1:Int⦄ ⦃r2:Int⦄ ⦃r3:ByteArray⦄ ⦃r4:List D⦄ ⦃r5:Int⦄ ⦃r6:List D⦄ ⦃r7:Int⦄ ⦃r8:List D⦄,F113 n z1 l2 l3=some (r1,r2,r3,r4,r5,r6,r7,r8)→
    Trip Try.prog inv 113 [.c (.ptr (.ext 0) 0),.d (.int .i64 z1),.d (.list false 1 l2)] [.cells [.ow (.ext 1)],.tree .flat true 7 l3 none] (.t [.d (.agg [.int .u8 r1,.int .i64 r2,.str r3,.list true 6 r4,.int .i64 r5,.list false 1 r6]),.d (.int .i64 r7)]) [.cells [.ow (.ext 1)],.tree .flat true 7 r8 none] []:=by
 intro z1 l2 l3 r1 r2 r3 r4 r5 r6 r7 r8 h
 unfold F113 at h
 refine Trip.of tab_ok tab_one fol Try.func113 rfl (by kernel_rfl) rfl rfl rfl (fun M hM hI=>?_)
 try cbv
 refine seq_go ?_
 try cbv
 refine seq_go ?_
 try cbv
 replace h:=bO2_inv h
 obtain⟨z4,l5,hr,h⟩:=h
 refine call_go rfl rfl ?_
 try cbv
 refine call_with hM hI [.ext 0,.ext 1] (T64 _ hr) rfl (by simp) ⟨rfl,⟨rfl,trivial⟩⟩ ⟨trivial,⟨trivial,trivial⟩⟩ (by simp) ?_
 clear hr
 try cbv
 refine seq_go ?_
 try cbv
 refine seq_join (T:=Nat×Bool) (fun t=>⟨[(0,.v (.c (.ptr (.ext 0) 0))),(1,.v (.d (.int .i64 z1))),(2,.v (.d (.list false 1 l2))),(6,.v (.c (.ptr (.loc 0) 0))),(7,.v (.d (.int .i64 0))),(8,.v (.d (.int .i64 z4))),(13,.v (.d (.bool t.2)))],[(.ext 0,.cells [.ow (.ext 1)]),(.ext 1,.tree .flat true 7 l5 none),(.loc 0,.cells [.d (.int .u8 0),.d (.int .i64 0),.d (.str ByteArray.empty),.nils true 6,.d (.int .i64 0),.nils false 1])],256⟩) (fun t=>t.1≤n∧L113_1 t.1 z1 l2 z4 l5 t.2=some (r1,r2,r3,r4,r5,r6,r7,r8)) ?_ ?_
 ·try cbv
  refine splitI (fun e=>?_) (fun e=>?_)
  ·replace h:=ite_t e h
   clear e
   try cbv
   exact join_next (n,false) [0,1,2,6,7,8,13] [.ext 0,.ext 1,.loc 0] 256 ⟨by omega,h⟩ (by cbv)
  replace h:=ite_f e h
  clear e
  try cbv
  exact join_next (n,true) [0,1,2,6,7,8,13] [.ext 0,.ext 1,.loc 0] 256 ⟨by omega,h⟩ (by cbv)
 clear h
 rintro⟨m1,b6⟩ ⟨hm1,h⟩
 replace hm1:m1≤n:=hm1
 obtain _ | m1:=m1
 ·replace h:L113_1 0 z1 l2 z4 l5 b6=some (r1,r2,r3,r4,r5,r6,r7,r8):=h
  rw[L113_1]at h
  cases h
 replace h:L113_1 (m1+1) z1 l2 z4 l5 b6=some (r1,r2,r3,r4,r5,r6,r7,r8):=h
 rw[L113_1]at h
 try cbv
 cases b6
 rotate_left
 ·replace h:=ite_t rfl h
  try cbv
  refine seq_go ?_
  try cbv
  obtain⟨rfl,rfl,rfl,rfl,rfl,rfl,rfl,rfl⟩:=inj8 h
  refine fin_go ?_
  try cbv
  exact⟨[],rfl,rfl,⟨rfl,⟨rfl,trivial⟩⟩,trivial,trivial⟩
 replace h:=ite_f Bool.false_ne_true h
 try cbv
 refine seq_go ?_
 try cbv
 replace h:=needF_inv h
 obtain⟨hn,h⟩:=h
 refine⟨(M.lock_iff _).2 hn,?_⟩
 clear hn
 try cbv
 replace h:=getN_inv h
 obtain⟨x7,hx,h⟩:=h
 replace h:=ds_t183_inv h
 obtain⟨z8,z9,s10,l11,z12,l13,b14,rfl,h⟩:=h
 refine⟨_,hx,?_⟩
 clear hx
 try cbv
 replace h:=bO7_inv h
 obtain⟨z15,z16,s17,l18,z19,l20,z21,hr,h⟩:=h
 refine call_go rfl rfl ?_
 try cbv
 refine call_pure hM hI (T31 _ hr) rfl ?_
 clear hr
 try cbv
 obtain⟨rfl,rfl,rfl,rfl,rfl,rfl,rfl,rfl⟩:=inj8 h
 refine fin_go ?_
 try cbv
 exact⟨[],rfl,rfl,⟨rfl,⟨rfl,trivial⟩⟩,trivial,trivial⟩
mutual
def L33_1:Nat→Int→Int→ByteArray→(List D)→Int→(List D)→(List D)→Int→Int→ByteArray→(List D)→Int→(List D)→Bool→Option (Int×Int×ByteArray×Int×Int×List D×List D)
 | 0,_,_,_,_,_,_,_,_,_,_,_,_,_,_=>none
 | n+1,z1,z2,s3,l4,z5,l6,l7,z8,z9,s10,l11,z12,l13,b15=>
  (if b15=true then bO6 (F29 n z8 z9 s10 l11 z12 l13) fun z16 z17 s18 z19 l20 l21=>some (z16,z17,s18,z19,(0:Int),l20,l21)else getF l7 0 fun x22=>ds_i64 x22 fun z23=>bO1 (F96 n z1 z2 s3 l4 z5 l6 z23) fun z24=>(if z24=(0:Int)then L33_2 n z1 z2 s3 l4 z5 l6 l7 z8 z9 s10 l11 z12 l13 z23 z24 false else L33_2 n z1 z2 s3 l4 z5 l6 l7 z8 z9 s10 l11 z12 l13 z23 z24 true))
def L33_2:Nat→Int→Int→ByteArray→(List D)→Int→(List D)→(List D)→Int→Int→ByteArray→(List D)→Int→(List D)→Int→Int→Bool→Option (Int×Int×ByteArray×Int×Int×List D×List D)
 | 0,_,_,_,_,_,_,_,_,_,_,_,_,_,_,_,_=>none
 | n+1,z1,z2,s3,l4,z5,l6,l7,z8,z9,s10,l11,z12,l13,z23,z24,b25=>
  (if b25=true then some ((0:Int),(0:Int),ByteArray.empty,(0:Int),z24,([]:List D),([]:List D))else getF l4 z23 fun x26=>ds_t49 x26 fun z27 z28 s29 l30 z31 l32=>fromF l7 (1:Int) fun l33=>bO7 (F33 n z27 z28 s29 l30 z31 l32 l33 z8 z9 s10 l11 z12 l13) fun z34 z35 s36 z37 z38 l39 l40=>(if z38=(0:Int)then L33_3 n z1 z2 s3 l4 z5 l6 z23 z34 z35 s36 z37 z38 l39 l40 false else L33_3 n z1 z2 s3 l4 z5 l6 z23 z34 z35 s36 z37 z38 l39 l40 true))
def L33_3:Nat→Int→Int→ByteArray→(List D)→Int→(List D)→Int→Int→Int→ByteArray→Int→Int→(List D)→(List D)→Bool→Option (Int×Int×ByteArray×Int×Int×List D×List D)
 | 0,_,_,_,_,_,_,_,_,_,_,_,_,_,_,_=>none
 | n+1,z1,z2,s3,l4,z5,l6,z23,z34,z35,s36,z37,z38,l39,l40,b41=>
  (if b41=true then some ((0:Int),(0:Int),ByteArray.empty,(0:Int),z38,([]:List D),([]:List D))else bO6 (F29 n z1 z2 s3 l4 z5 l6) fun z42 z43 s44 z45 l46 l47=>needF (0≤z23∧z23.toNat<l46.length) (getN l46 (z23.toNat) fun x48=>ds_t49 x48 fun z49 z50 s51 l52 z53 l54=>setF l46 (z23.toNat) (.agg [.int .u8 z34,.int .i64 z35,.str s36,.list true 6 l39,.int .i64 z37,.list false 1 l40]) fun l55=>some (z42,z43,s44,z45,(0:Int),l55,l47)))
def F33:Nat→Int→Int→ByteArray→(List D)→Int→(List D)→(List D)→Int→Int→ByteArray→(List D)→Int→(List D)→Option (Int×Int×ByteArray×Int×Int×List D×List D)
 | 0,_,_,_,_,_,_,_,_,_,_,_,_,_=>none
 | n+1,z1,z2,s3,l4,z5,l6,l7,z8,z9,s10,l11,z12,l13=>
  lenF l7 fun z14=>(if z14=(0:Int)then L33_1 n z1 z2 s3 l4 z5 l6 l7 z8 z9 s10 l11 z12 l13 true else L33_1 n z1 z2 s3 l4 z5 l6 l7 z8 z9 s10 l11 z12 l13 false)
end
theorem T33 (n:Nat):∀⦃z1:Int⦄ ⦃z2:Int⦄ ⦃s3:ByteArray⦄ ⦃l4:List D⦄ ⦃z5:Int⦄ ⦃l6:List D⦄ ⦃l7:List D⦄ ⦃z8:Int⦄ ⦃z9:Int⦄ ⦃s10:ByteArray⦄ ⦃l11:List D⦄ ⦃z12:Int⦄ ⦃l13:List D⦄ ⦃r1:Int⦄ ⦃r2:Int⦄ ⦃r3:ByteArray⦄ ⦃r4:Int⦄ ⦃r5:Int⦄ ⦃r6:List D⦄ ⦃r7:List D⦄,F33 n z1 z2 s3 l4 z5 l6 l7 z8 z9 s10 l11 z12 l13=some (r1,r2,r3,r4,r5,r6,r7)→
    Trip Try.prog inv 33 [.d (.agg [.int .u8 z1,.int .i64 z2,.str s3,.list true 6 l4,.int .i64 z5,.list false 1 l6]),.d (.list false 1 l7),.d (.agg [.int .u8 z8,.int .i64 z9,.str s10,.list true 6 l11,.int .i64 z12,.list false 1 l13])] [] (.t [.agg [.d (.int .u8 r1),.d (.int .i64 r2),.d (.str r3),.ow (.loc 0),.d (.int .i64 r4),.ow (.loc 1)],.d (.int .i64 r5)]) [] [.tree .row true 6 r6 none,.tree .row false 1 r7 none]:=by
 induction n using Nat.strongRecOn with | _ n ih=>
 obtain _ | n:=n
 ·intro z1 z2 s3 l4 z5 l6 l7 z8 z9 s10 l11 z12 l13 r1 r2 r3 r4 r5 r6 r7 h
  cases (show (none:Option _)=some _ from h)
 intro z1 z2 s3 l4 z5 l6 l7 z8 z9 s10 l11 z12 l13 r1 r2 r3 r4 r5 r6 r7 h
 rw[F33]at h
 refine Trip.of tab_ok tab_one fol Try.func33 rfl (by kernel_rfl) rfl rfl rfl (fun M hM hI=>?_)
 try cbv
 refine seq_go ?_
 try cbv
 refine seq_go ?_
 try cbv
 refine seq_join (T:=Nat×Bool) (fun t=>⟨[(1,.v (.d (.list false 1 l7))),(3,.v (.c (.ptr (.loc 0) 0))),(5,.v (.c (.ptr (.loc 32) 0))),(6,.v (.c (.ptr (.loc 64) 0))),(7,.v (.d (.int .i64 0))),(14,.v (.d (.bool t.2)))],[(.loc 0,.cells [.d (.int .u8 z1),.d (.int .i64 z2),.d (.str s3),.d (.list true 6 l4),.d (.int .i64 z5),.d (.list false 1 l6)]),(.loc 32,.cells [.d (.int .u8 z8),.d (.int .i64 z9),.d (.str s10),.d (.list true 6 l11),.d (.int .i64 z12),.d (.list false 1 l13)]),(.loc 64,.cells [.d (.int .u8 0),.d (.int .i64 0),.d (.str ByteArray.empty),.nils true 6,.d (.int .i64 0),.nils false 1])],224⟩) (fun t=>t.1≤n∧L33_1 t.1 z1 z2 s3 l4 z5 l6 l7 z8 z9 s10 l11 z12 l13 t.2=some (r1,r2,r3,r4,r5,r6,r7)) ?_ ?_
 ·try cbv
  replace h:=lenF_inv M h
  obtain⟨z14,hz,h⟩:=h
  refine⟨z14,hz,?_⟩
  clear hz
  try cbv
  refine splitI (fun e=>?_) (fun e=>?_)
  ·replace h:=ite_t e h
   clear e
   try cbv
   exact join_next (n,true) [1,3,5,6,7,14] [.loc 0,.loc 32,.loc 64] 224 ⟨by omega,h⟩ (by cbv)
  replace h:=ite_f e h
  clear e
  try cbv
  exact join_next (n,false) [1,3,5,6,7,14] [.loc 0,.loc 32,.loc 64] 224 ⟨by omega,h⟩ (by cbv)
 clear h
 rintro⟨m1,b15⟩ ⟨hm1,h⟩
 replace hm1:m1≤n:=hm1
 obtain _ | m1:=m1
 ·replace h:L33_1 0 z1 z2 s3 l4 z5 l6 l7 z8 z9 s10 l11 z12 l13 b15=some (r1,r2,r3,r4,r5,r6,r7):=h
  rw[L33_1]at h
  cases h
 replace h:L33_1 (m1+1) z1 z2 s3 l4 z5 l6 l7 z8 z9 s10 l11 z12 l13 b15=some (r1,r2,r3,r4,r5,r6,r7):=h
 rw[L33_1]at h
 try cbv
 cases b15
 rotate_left
 ·replace h:=ite_t rfl h
  try cbv
  refine seq_go ?_
  try cbv
  replace h:=bO6_inv h
  obtain⟨z16,z17,s18,z19,l20,l21,hr,h⟩:=h
  refine call_go rfl rfl ?_
  try cbv
  refine call_with hM hI [] (T29 _ hr) rfl (by simp) trivial trivial (by simp) ?_
  clear hr
  try cbv
  obtain⟨rfl,rfl,rfl,rfl,rfl,rfl,rfl⟩:=inj7 h
  refine fin_go ?_
  try cbv
  exact⟨[.loc 256,.loc 257],rfl,rfl,trivial,⟨rfl,⟨rfl,trivial⟩⟩,trivial⟩
 replace h:=ite_f Bool.false_ne_true h
 try cbv
 refine seq_go ?_
 try cbv
 replace h:=getF_inv h
 obtain⟨x22,hx22,h⟩:=h
 replace h:=ds_i64_inv h
 obtain⟨z23,rfl,h⟩:=h
 refine⟨_,hx22.1,hx22.2,?_⟩
 try cbv
 replace h:=bO1_inv h
 obtain⟨z24,hr,h⟩:=h
 first | refine .inr (.inl ⟨[],?_⟩) | refine .inl ⟨[],?_⟩
 try cbv
 refine call_pure hM hI (T96 _ hr) rfl ?_
 clear hr
 try cbv
 refine drawn ?_ ?_
 ·show _=true
  kernel_rfl
 try cbv
 refine seq_go ?_
 try cbv
 refine seq_join (T:=Nat×Bool) (fun t=>⟨[(1,.v (.d (.list false 1 l7))),(3,.v (.c (.ptr (.loc 0) 0))),(5,.v (.c (.ptr (.loc 32) 0))),(6,.v (.c (.ptr (.loc 64) 0))),(7,.v (.d (.int .i64 0))),(8,.v (.d (.int .i64 z24))),(23,.v (.d (.bool t.2)))],[(.loc 0,.cells [.d (.int .u8 z1),.d (.int .i64 z2),.d (.str s3),.d (.list true 6 l4),.d (.int .i64 z5),.d (.list false 1 l6)]),(.loc 32,.cells [.d (.int .u8 z8),.d (.int .i64 z9),.d (.str s10),.d (.list true 6 l11),.d (.int .i64 z12),.d (.list false 1 l13)]),(.loc 64,.cells [.d (.int .u8 0),.d (.int .i64 0),.d (.str ByteArray.empty),.nils true 6,.d (.int .i64 0),.nils false 1])],480⟩) (fun t=>t.1≤m1∧L33_2 t.1 z1 z2 s3 l4 z5 l6 l7 z8 z9 s10 l11 z12 l13 z23 z24 t.2=some (r1,r2,r3,r4,r5,r6,r7)) ?_ ?_
 ·try cbv
  refine splitI (fun e=>?_) (fun e=>?_)
  ·replace h:=ite_t e h
   clear e
   try cbv
   exact join_next (m1,false) [1,3,5,6,7,8,23] [.loc 0,.loc 32,.loc 64] 480 ⟨by omega,h⟩ (by cbv)
  replace h:=ite_f e h
  clear e
  try cbv
  exact join_next (m1,true) [1,3,5,6,7,8,23] [.loc 0,.loc 32,.loc 64] 480 ⟨by omega,h⟩ (by cbv)
 clear h
 rintro⟨m2,b25⟩ ⟨hm2,h⟩
 replace hm2:m2≤m1:=hm2
 obtain _ | m2:=m2
 ·replace h:L33_2 0 z1 z2 s3 l4 z5 l6 l7 z8 z9 s10 l11 z12 l13 z23 z24 b25=some (r1,r2,r3,r4,r5,r6,r7):=h
  rw[L33_2]at h
  cases h
 replace h:L33_2 (m2+1) z1 z2 s3 l4 z5 l6 l7 z8 z9 s10 l11 z12 l13 z23 z24 b25=some (r1,r2,r3,r4,r5,r6,r7):=h
 rw[L33_2]at h
 try cbv
 cases b25
 rotate_left
 ·replace h:=ite_t rfl h
  try cbv
  refine seq_go ?_
  try cbv
  obtain⟨rfl,rfl,rfl,rfl,rfl,rfl,rfl⟩:=inj7 h
  refine⟨_,_,_,⟨rfl,rfl,rfl⟩,[.treeC (.loc 64) 3 true 6,.treeC (.loc 64) 5 false 1],?_⟩
  try cbv
  exact⟨[.loc 608,.loc 640],rfl,rfl,trivial,⟨rfl,⟨rfl,trivial⟩⟩,trivial⟩
 replace h:=ite_f Bool.false_ne_true h
 try cbv
 refine seq_go ?_
 try cbv
 refine⟨_,hx22.1,hx22.2,?_⟩
 try cbv
 replace h:=getF_inv h
 obtain⟨x26,hx26,h⟩:=h
 replace h:=ds_t49_inv h
 obtain⟨z27,z28,s29,l30,z31,l32,rfl,h⟩:=h
 refine⟨_,hx26.1,hx26.2,?_⟩
 try cbv
 replace h:=fromF_inv M h
 obtain⟨l33,hb,hz,h⟩:=h
 refine⟨l33,hb,hz,?_⟩
 clear hb hz
 try cbv
 replace h:=bO7_inv h
 obtain⟨z34,z35,s36,z37,z38,l39,l40,hr,h⟩:=h
 first | refine .inr (.inl ⟨[],?_⟩) | refine .inl ⟨[],?_⟩
 try cbv
 refine call_with hM hI [] ((ih _ (by omega)) hr) rfl (by simp) trivial trivial (by simp) ?_
 clear hr
 try cbv
 refine drawn ?_ ?_
 ·show _=true
  kernel_rfl
 try cbv
 refine seq_go ?_
 try cbv
 refine seq_join (T:=Nat×Bool) (fun t=>⟨[(1,.v (.d (.list false 1 l7))),(3,.v (.c (.ptr (.loc 0) 0))),(6,.v (.c (.ptr (.loc 64) 0))),(7,.v (.d (.int .i64 0))),(9,.v (.c (.ptr (.loc 928) 0))),(10,.v (.d (.int .i64 z38))),(41,.v (.d (.bool t.2)))],[(.loc 0,.cells [.d (.int .u8 z1),.d (.int .i64 z2),.d (.str s3),.d (.list true 6 l4),.d (.int .i64 z5),.d (.list false 1 l6)]),(.loc 64,.cells [.d (.int .u8 0),.d (.int .i64 0),.d (.str ByteArray.empty),.nils true 6,.d (.int .i64 0),.nils false 1]),(.loc 928,.cells [.d (.int .u8 z34),.d (.int .i64 z35),.d (.str s36),.ow (.loc 800),.d (.int .i64 z37),.ow (.loc 801)]),(.loc 800,.tree .row true 6 l39 none),(.loc 801,.tree .row false 1 l40 none)],1088⟩) (fun t=>t.1≤m2∧L33_3 t.1 z1 z2 s3 l4 z5 l6 z23 z34 z35 s36 z37 z38 l39 l40 t.2=some (r1,r2,r3,r4,r5,r6,r7)) ?_ ?_
 ·try cbv
  refine splitI (fun e=>?_) (fun e=>?_)
  ·replace h:=ite_t e h
   clear e
   try cbv
   exact join_next (m2,false) [1,3,6,7,9,10,41] [.loc 0,.loc 64,.loc 928,.loc 800,.loc 801] 1088 ⟨by omega,h⟩ (by cbv)
  replace h:=ite_f e h
  clear e
  try cbv
  exact join_next (m2,true) [1,3,6,7,9,10,41] [.loc 0,.loc 64,.loc 928,.loc 800,.loc 801] 1088 ⟨by omega,h⟩ (by cbv)
 clear h
 rintro⟨m3,b41⟩ ⟨hm3,h⟩
 replace hm3:m3≤m2:=hm3
 obtain _ | m3:=m3
 ·replace h:L33_3 0 z1 z2 s3 l4 z5 l6 z23 z34 z35 s36 z37 z38 l39 l40 b41=some (r1,r2,r3,r4,r5,r6,r7):=h
  rw[L33_3]at h
  cases h
 replace h:L33_3 (m3+1) z1 z2 s3 l4 z5 l6 z23 z34 z35 s36 z37 z38 l39 l40 b41=some (r1,r2,r3,r4,r5,r6,r7):=h
 rw[L33_3]at h
 try cbv
 cases b41
 rotate_left
 ·replace h:=ite_t rfl h
  try cbv
  refine seq_go ?_
  try cbv
  obtain⟨rfl,rfl,rfl,rfl,rfl,rfl,rfl⟩:=inj7 h
  refine⟨_,_,_,⟨rfl,rfl,rfl⟩,[.treeC (.loc 64) 3 true 6,.treeC (.loc 64) 5 false 1],?_⟩
  try cbv
  exact⟨[.loc 1216,.loc 1248],rfl,rfl,trivial,⟨rfl,⟨rfl,trivial⟩⟩,trivial⟩
 replace h:=ite_f Bool.false_ne_true h
 try cbv
 refine seq_go ?_
 try cbv
 replace h:=bO6_inv h
 obtain⟨z42,z43,s44,z45,l46,l47,hr,h⟩:=h
 refine call_go rfl rfl ?_
 try cbv
 refine call_with hM hI [] (T29 _ hr) rfl (by simp) trivial trivial (by simp) ?_
 clear hr
 try cbv
 refine seq_go ?_
 try cbv
 refine⟨_,hx22.1,hx22.2,?_⟩
 try cbv
 replace h:=needF_inv h
 obtain⟨hn,h⟩:=h
 refine⟨(M.lock_iff _).2 hn,?_⟩
 clear hn
 try cbv
 refine⟨[],?_⟩
 try cbv
 replace h:=getN_inv h
 obtain⟨x48,hx,h⟩:=h
 replace h:=ds_t49_inv h
 obtain⟨z49,z50,s51,l52,z53,l54,rfl,h⟩:=h
 refine⟨_,hx,?_⟩
 clear hx
 try cbv
 refine drawn ?_ ?_
 ·show _=true
  kernel_rfl
 try cbv
 refine seq_go ?_
 try cbv
 replace h:=setF_inv h
 obtain⟨l55,hl55,h⟩:=h
 obtain⟨rfl,rfl,rfl,rfl,rfl,rfl,rfl⟩:=inj7 h
 refine⟨_,_,_,⟨rfl,rfl,rfl⟩,[.close (.loc 1120)],?_⟩
 try cbv
 refine⟨l55,hl55,?_⟩
 clear hl55
 try cbv
 exact⟨[.loc 1120,.loc 1121],rfl,rfl,trivial,⟨rfl,⟨rfl,trivial⟩⟩,trivial⟩
def L33z_3:Nat→Int→Int→ByteArray→(List D)→Int→(List D)→Int→Int→Int→ByteArray→Int→Int→(List D)→(List D)→Bool→Option (Int×Int×ByteArray×List D×Int×List D×Int)
 | 0,_,_,_,_,_,_,_,_,_,_,_,_,_,_,_=>none
 | n+1,z1,z2,s3,l4,z5,l6,z23,z34,z35,s36,z37,z38,l39,l40,b41=>
  (if b41=true then some ((0:Int),(0:Int),ByteArray.empty,([]:List D),(0:Int),([]:List D),z38)else bO6 (F29 n z1 z2 s3 l4 z5 l6) fun z42 z43 s44 z45 l46 l47=>needF (0≤z23∧z23.toNat<l46.length) (getN l46 (z23.toNat) fun x48=>ds_t49 x48 fun z49 z50 s51 l52 z53 l54=>setF l46 (z23.toNat) (.agg [.int .u8 z34,.int .i64 z35,.str s36,.list true 6 l39,.int .i64 z37,.list false 1 l40]) fun l55=>some (z42,z43,s44,l55,z45,l47,(0:Int))))
def L33z_2:Nat→Int→Int→ByteArray→(List D)→Int→(List D)→(List D)→Int→Int→ByteArray→(List D)→Int→(List D)→Int→Int→Bool→Option (Int×Int×ByteArray×List D×Int×List D×Int)
 | 0,_,_,_,_,_,_,_,_,_,_,_,_,_,_,_,_=>none
 | n+1,z1,z2,s3,l4,z5,l6,l7,z8,z9,s10,l11,z12,l13,z23,z24,b25=>
  (if b25=true then some ((0:Int),(0:Int),ByteArray.empty,([]:List D),(0:Int),([]:List D),z24)else getF l4 z23 fun x26=>ds_t49 x26 fun z27 z28 s29 l30 z31 l32=>fromF l7 (1:Int) fun l33=>bO7 (F33 n z27 z28 s29 l30 z31 l32 l33 z8 z9 s10 l11 z12 l13) fun z34 z35 s36 z37 z38 l39 l40=>(if z38=(0:Int)then L33z_3 n z1 z2 s3 l4 z5 l6 z23 z34 z35 s36 z37 z38 l39 l40 false else L33z_3 n z1 z2 s3 l4 z5 l6 z23 z34 z35 s36 z37 z38 l39 l40 true))
def L33z_1:Nat→Int→Int→ByteArray→(List D)→Int→(List D)→(List D)→Int→Int→ByteArray→(List D)→Int→(List D)→Bool→Option (Int×Int×ByteArray×List D×Int×List D×Int)
 | 0,_,_,_,_,_,_,_,_,_,_,_,_,_,_=>none
 | n+1,z1,z2,s3,l4,z5,l6,l7,z8,z9,s10,l11,z12,l13,b15=>
  (if b15=true then bO6 (F29 n z8 z9 s10 l11 z12 l13) fun z16 z17 s18 z19 l20 l21=>some (z16,z17,s18,l20,z19,l21,(0:Int))else getF l7 0 fun x22=>ds_i64 x22 fun z23=>bO1 (F96 n z1 z2 s3 l4 z5 l6 z23) fun z24=>(if z24=(0:Int)then L33z_2 n z1 z2 s3 l4 z5 l6 l7 z8 z9 s10 l11 z12 l13 z23 z24 false else L33z_2 n z1 z2 s3 l4 z5 l6 l7 z8 z9 s10 l11 z12 l13 z23 z24 true))
def F33z (n:Nat) (z1:Int) (z2:Int) (s3:ByteArray) (l4:List D) (z5:Int) (l6:List D) (l7:List D) (z8:Int) (z9:Int) (s10:ByteArray) (l11:List D) (z12:Int) (l13:List D):Option (Int×Int×ByteArray×List D×Int×List D×Int):=
 lenF l7 fun z14=>(if z14=(0:Int)then L33z_1 n z1 z2 s3 l4 z5 l6 l7 z8 z9 s10 l11 z12 l13 true else L33z_1 n z1 z2 s3 l4 z5 l6 l7 z8 z9 s10 l11 z12 l13 false)
theorem T33z (n:Nat):∀⦃z1:Int⦄ ⦃z2:Int⦄ ⦃s3:ByteArray⦄ ⦃l4:List D⦄ ⦃z5:Int⦄ ⦃l6:List D⦄ ⦃l7:List D⦄ ⦃z8:Int⦄ ⦃z9:Int⦄ ⦃s10:ByteArray⦄ ⦃l11:List D⦄ ⦃z12:Int⦄ ⦃l13:List D⦄ ⦃r1:Int⦄ ⦃r2:Int⦄ ⦃r3:ByteArray⦄ ⦃r4:List D⦄ ⦃r5:Int⦄ ⦃r6:List D⦄ ⦃r7:Int⦄,F33z n z1 z2 s3 l4 z5 l6 l7 z8 z9 s10 l11 z12 l13=some (r1,r2,r3,r4,r5,r6,r7)→
    Trip Try.prog inv 33 [.d (.agg [.int .u8 z1,.int .i64 z2,.str s3,.list true 6 l4,.int .i64 z5,.list false 1 l6]),.d (.list false 1 l7),.d (.agg [.int .u8 z8,.int .i64 z9,.str s10,.list true 6 l11,.int .i64 z12,.list false 1 l13])] [] (.t [.d (.agg [.int .u8 r1,.int .i64 r2,.str r3,.list true 6 r4,.int .i64 r5,.list false 1 r6]),.d (.int .i64 r7)]) [] []:=by
 intro z1 z2 s3 l4 z5 l6 l7 z8 z9 s10 l11 z12 l13 r1 r2 r3 r4 r5 r6 r7 h
 unfold F33z at h
 refine Trip.of tab_ok tab_one fol Try.func33 rfl (by kernel_rfl) rfl rfl rfl (fun M hM hI=>?_)
 try cbv
 refine seq_go ?_
 try cbv
 refine seq_go ?_
 try cbv
 refine seq_join (T:=Nat×Bool) (fun t=>⟨[(1,.v (.d (.list false 1 l7))),(3,.v (.c (.ptr (.loc 0) 0))),(5,.v (.c (.ptr (.loc 32) 0))),(6,.v (.c (.ptr (.loc 64) 0))),(7,.v (.d (.int .i64 0))),(14,.v (.d (.bool t.2)))],[(.loc 0,.cells [.d (.int .u8 z1),.d (.int .i64 z2),.d (.str s3),.d (.list true 6 l4),.d (.int .i64 z5),.d (.list false 1 l6)]),(.loc 32,.cells [.d (.int .u8 z8),.d (.int .i64 z9),.d (.str s10),.d (.list true 6 l11),.d (.int .i64 z12),.d (.list false 1 l13)]),(.loc 64,.cells [.d (.int .u8 0),.d (.int .i64 0),.d (.str ByteArray.empty),.nils true 6,.d (.int .i64 0),.nils false 1])],224⟩) (fun t=>t.1≤n∧L33z_1 t.1 z1 z2 s3 l4 z5 l6 l7 z8 z9 s10 l11 z12 l13 t.2=some (r1,r2,r3,r4,r5,r6,r7)) ?_ ?_
 ·try cbv
  replace h:=lenF_inv M h
  obtain⟨z14,hz,h⟩:=h
  refine⟨z14,hz,?_⟩
  clear hz
  try cbv
  refine splitI (fun e=>?_) (fun e=>?_)
  ·replace h:=ite_t e h
   clear e
   try cbv
   exact join_next (n,true) [1,3,5,6,7,14] [.loc 0,.loc 32,.loc 64] 224 ⟨by omega,h⟩ (by cbv)
  replace h:=ite_f e h
  clear e
  try cbv
  exact join_next (n,false) [1,3,5,6,7,14] [.loc 0,.loc 32,.loc 64] 224 ⟨by omega,h⟩ (by cbv)
 clear h
 rintro⟨m1,b15⟩ ⟨hm1,h⟩
 replace hm1:m1≤n:=hm1
 obtain _ | m1:=m1
 ·replace h:L33z_1 0 z1 z2 s3 l4 z5 l6 l7 z8 z9 s10 l11 z12 l13 b15=some (r1,r2,r3,r4,r5,r6,r7):=h
  rw[L33z_1]at h
  cases h
 replace h:L33z_1 (m1+1) z1 z2 s3 l4 z5 l6 l7 z8 z9 s10 l11 z12 l13 b15=some (r1,r2,r3,r4,r5,r6,r7):=h
 rw[L33z_1]at h
 try cbv
 cases b15
 rotate_left
 ·replace h:=ite_t rfl h
  try cbv
  refine seq_go ?_
  try cbv
  replace h:=bO6_inv h
  obtain⟨z16,z17,s18,z19,l20,l21,hr,h⟩:=h
  refine call_go rfl rfl ?_
  try cbv
  refine call_with hM hI [] (T29 _ hr) rfl (by simp) trivial trivial (by simp) ?_
  clear hr
  try cbv
  obtain⟨rfl,rfl,rfl,rfl,rfl,rfl,rfl⟩:=inj7 h
  refine⟨_,_,_,⟨rfl,rfl,rfl⟩,[.freeze (.loc 256),.freeze (.loc 257)],?_⟩
  try cbv
  exact⟨[],rfl,rfl,trivial,trivial,trivial⟩
 replace h:=ite_f Bool.false_ne_true h
 try cbv
 refine seq_go ?_
 try cbv
 replace h:=getF_inv h
 obtain⟨x22,hx22,h⟩:=h
 replace h:=ds_i64_inv h
 obtain⟨z23,rfl,h⟩:=h
 refine⟨_,hx22.1,hx22.2,?_⟩
 try cbv
 replace h:=bO1_inv h
 obtain⟨z24,hr,h⟩:=h
 first | refine .inr (.inl ⟨[],?_⟩) | refine .inl ⟨[],?_⟩
 try cbv
 refine call_pure hM hI (T96 _ hr) rfl ?_
 clear hr
 try cbv
 refine drawn ?_ ?_
 ·show _=true
  kernel_rfl
 try cbv
 refine seq_go ?_
 try cbv
 refine seq_join (T:=Nat×Bool) (fun t=>⟨[(1,.v (.d (.list false 1 l7))),(3,.v (.c (.ptr (.loc 0) 0))),(5,.v (.c (.ptr (.loc 32) 0))),(6,.v (.c (.ptr (.loc 64) 0))),(7,.v (.d (.int .i64 0))),(8,.v (.d (.int .i64 z24))),(23,.v (.d (.bool t.2)))],[(.loc 0,.cells [.d (.int .u8 z1),.d (.int .i64 z2),.d (.str s3),.d (.list true 6 l4),.d (.int .i64 z5),.d (.list false 1 l6)]),(.loc 32,.cells [.d (.int .u8 z8),.d (.int .i64 z9),.d (.str s10),.d (.list true 6 l11),.d (.int .i64 z12),.d (.list false 1 l13)]),(.loc 64,.cells [.d (.int .u8 0),.d (.int .i64 0),.d (.str ByteArray.empty),.nils true 6,.d (.int .i64 0),.nils false 1])],480⟩) (fun t=>t.1≤m1∧L33z_2 t.1 z1 z2 s3 l4 z5 l6 l7 z8 z9 s10 l11 z12 l13 z23 z24 t.2=some (r1,r2,r3,r4,r5,r6,r7)) ?_ ?_
 ·try cbv
  refine splitI (fun e=>?_) (fun e=>?_)
  ·replace h:=ite_t e h
   clear e
   try cbv
   exact join_next (m1,false) [1,3,5,6,7,8,23] [.loc 0,.loc 32,.loc 64] 480 ⟨by omega,h⟩ (by cbv)
  replace h:=ite_f e h
  clear e
  try cbv
  exact join_next (m1,true) [1,3,5,6,7,8,23] [.loc 0,.loc 32,.loc 64] 480 ⟨by omega,h⟩ (by cbv)
 clear h
 rintro⟨m2,b25⟩ ⟨hm2,h⟩
 replace hm2:m2≤m1:=hm2
 obtain _ | m2:=m2
 ·replace h:L33z_2 0 z1 z2 s3 l4 z5 l6 l7 z8 z9 s10 l11 z12 l13 z23 z24 b25=some (r1,r2,r3,r4,r5,r6,r7):=h
  rw[L33z_2]at h
  cases h
 replace h:L33z_2 (m2+1) z1 z2 s3 l4 z5 l6 l7 z8 z9 s10 l11 z12 l13 z23 z24 b25=some (r1,r2,r3,r4,r5,r6,r7):=h
 rw[L33z_2]at h
 try cbv
 cases b25
 rotate_left
 ·replace h:=ite_t rfl h
  try cbv
  refine seq_go ?_
  try cbv
  obtain⟨rfl,rfl,rfl,rfl,rfl,rfl,rfl⟩:=inj7 h
  refine⟨_,_,_,⟨rfl,rfl,rfl⟩,[.treeC (.loc 64) 3 true 6,.treeC (.loc 64) 5 false 1,.freeze (.loc 608),.freeze (.loc 640)],?_⟩
  try cbv
  exact⟨[],rfl,rfl,trivial,trivial,trivial⟩
 replace h:=ite_f Bool.false_ne_true h
 try cbv
 refine seq_go ?_
 try cbv
 refine⟨_,hx22.1,hx22.2,?_⟩
 try cbv
 replace h:=getF_inv h
 obtain⟨x26,hx26,h⟩:=h
 replace h:=ds_t49_inv h
 obtain⟨z27,z28,s29,l30,z31,l32,rfl,h⟩:=h
 refine⟨_,hx26.1,hx26.2,?_⟩
 try cbv
 replace h:=fromF_inv M h
 obtain⟨l33,hb,hz,h⟩:=h
 refine⟨l33,hb,hz,?_⟩
 clear hb hz
 try cbv
 replace h:=bO7_inv h
 obtain⟨z34,z35,s36,z37,z38,l39,l40,hr,h⟩:=h
 first | refine .inr (.inl ⟨[],?_⟩) | refine .inl ⟨[],?_⟩
 try cbv
 refine call_with hM hI [] (T33 _ hr) rfl (by simp) trivial trivial (by simp) ?_
 clear hr
 try cbv
 refine drawn ?_ ?_
 ·show _=true
  kernel_rfl
 try cbv
 refine seq_go ?_
 try cbv
 refine seq_join (T:=Nat×Bool) (fun t=>⟨[(1,.v (.d (.list false 1 l7))),(3,.v (.c (.ptr (.loc 0) 0))),(6,.v (.c (.ptr (.loc 64) 0))),(7,.v (.d (.int .i64 0))),(9,.v (.c (.ptr (.loc 928) 0))),(10,.v (.d (.int .i64 z38))),(41,.v (.d (.bool t.2)))],[(.loc 0,.cells [.d (.int .u8 z1),.d (.int .i64 z2),.d (.str s3),.d (.list true 6 l4),.d (.int .i64 z5),.d (.list false 1 l6)]),(.loc 64,.cells [.d (.int .u8 0),.d (.int .i64 0),.d (.str ByteArray.empty),.nils true 6,.d (.int .i64 0),.nils false 1]),(.loc 928,.cells [.d (.int .u8 z34),.d (.int .i64 z35),.d (.str s36),.ow (.loc 800),.d (.int .i64 z37),.ow (.loc 801)]),(.loc 800,.tree .row true 6 l39 none),(.loc 801,.tree .row false 1 l40 none)],1088⟩) (fun t=>t.1≤m2∧L33z_3 t.1 z1 z2 s3 l4 z5 l6 z23 z34 z35 s36 z37 z38 l39 l40 t.2=some (r1,r2,r3,r4,r5,r6,r7)) ?_ ?_
 ·try cbv
  refine splitI (fun e=>?_) (fun e=>?_)
  ·replace h:=ite_t e h
   clear e
   try cbv
   exact join_next (m2,false) [1,3,6,7,9,10,41] [.loc 0,.loc 64,.loc 928,.loc 800,.loc 801] 1088 ⟨by omega,h⟩ (by cbv)
  replace h:=ite_f e h
  clear e
  try cbv
  exact join_next (m2,true) [1,3,6,7,9,10,41] [.loc 0,.loc 64,.loc 928,.loc 800,.loc 801] 1088 ⟨by omega,h⟩ (by cbv)
 clear h
 rintro⟨m3,b41⟩ ⟨hm3,h⟩
 replace hm3:m3≤m2:=hm3
 obtain _ | m3:=m3
 ·replace h:L33z_3 0 z1 z2 s3 l4 z5 l6 z23 z34 z35 s36 z37 z38 l39 l40 b41=some (r1,r2,r3,r4,r5,r6,r7):=h
  rw[L33z_3]at h
  cases h
 replace h:L33z_3 (m3+1) z1 z2 s3 l4 z5 l6 z23 z34 z35 s36 z37 z38 l39 l40 b41=some (r1,r2,r3,r4,r5,r6,r7):=h
 rw[L33z_3]at h
 try cbv
 cases b41
 rotate_left
 ·replace h:=ite_t rfl h
  try cbv
  refine seq_go ?_
  try cbv
  obtain⟨rfl,rfl,rfl,rfl,rfl,rfl,rfl⟩:=inj7 h
  refine⟨_,_,_,⟨rfl,rfl,rfl⟩,[.treeC (.loc 64) 3 true 6,.treeC (.loc 64) 5 false 1,.freeze (.loc 1216),.freeze (.loc 1248)],?_⟩
  try cbv
  exact⟨[],rfl,rfl,trivial,trivial,trivial⟩
 replace h:=ite_f Bool.false_ne_true h
 try cbv
 refine seq_go ?_
 try cbv
 replace h:=bO6_inv h
 obtain⟨z42,z43,s44,z45,l46,l47,hr,h⟩:=h
 refine call_go rfl rfl ?_
 try cbv
 refine call_with hM hI [] (T29 _ hr) rfl (by simp) trivial trivial (by simp) ?_
 clear hr
 try cbv
 refine seq_go ?_
 try cbv
 refine⟨_,hx22.1,hx22.2,?_⟩
 try cbv
 replace h:=needF_inv h
 obtain⟨hn,h⟩:=h
 refine⟨(M.lock_iff _).2 hn,?_⟩
 clear hn
 try cbv
 refine⟨[],?_⟩
 try cbv
 replace h:=getN_inv h
 obtain⟨x48,hx,h⟩:=h
 replace h:=ds_t49_inv h
 obtain⟨z49,z50,s51,l52,z53,l54,rfl,h⟩:=h
 refine⟨_,hx,?_⟩
 clear hx
 try cbv
 refine drawn ?_ ?_
 ·show _=true
  kernel_rfl
 try cbv
 refine seq_go ?_
 try cbv
 replace h:=setF_inv h
 obtain⟨l55,hl55,h⟩:=h
 obtain⟨rfl,rfl,rfl,rfl,rfl,rfl,rfl⟩:=inj7 h
 refine⟨_,_,_,⟨rfl,rfl,rfl⟩,[.close (.loc 1120),.freeze (.loc 1120),.freeze (.loc 1121)],?_⟩
 try cbv
 refine⟨l55,hl55,?_⟩
 clear hl55
 try cbv
 exact⟨[],rfl,rfl,trivial,trivial,trivial⟩
def L114_3:Nat→Int→(List D)→Int→Int→ByteArray→(List D)→Int→(List D)→Bool→Option (Int×List D)
 | 0,_,_,_,_,_,_,_,_,_=>none
 | n+1,z1,l11,z21,z22,s23,l24,z25,l26,b44=>
  (if b44=true then some ((6:Int),l11)else needF (0≤z1∧z1.toNat<l11.length) (getN l11 (z1.toNat) fun x45=>ds_t183 x45 fun z46 z47 s48 l49 z50 l51 b52=>setF l11 (z1.toNat) (.agg [.int .u8 z21,.int .i64 z22,.str s23,.list true 6 l24,.int .i64 z25,.list false 1 l26,.bool b52]) fun l53=>some ((0:Int),l53)))
def L114_2:Nat→Int→(List D)→(List D)→Int→Int→ByteArray→(List D)→Int→(List D)→Int→Bool→Option (Int×List D)
 | 0,_,_,_,_,_,_,_,_,_,_,_=>none
 | n+1,z1,l2,l11,z21,z22,s23,l24,z25,l26,z27,b28=>
  (if b28=true then some (z27,l11)else needF (0≤z1∧z1.toNat<l11.length) (getN l11 (z1.toNat) fun x29=>ds_t183 x29 fun z30 z31 s32 l33 z34 l35 b36=>bO7 (F31 n z30 z31 s32 l33 z34 l35 l2) fun z37 z38 s39 l40 z41 l42 z43=>(if z43=(3:Int)then L114_3 n z1 l11 z21 z22 s23 l24 z25 l26 false else L114_3 n z1 l11 z21 z22 s23 l24 z25 l26 true)))
def L114_1:Nat→Int→(List D)→Int→Int→ByteArray→(List D)→Int→(List D)→Int→(List D)→Bool→Option (Int×List D)
 | 0,_,_,_,_,_,_,_,_,_,_,_=>none
 | n+1,z1,l2,z3,z4,s5,l6,z7,l8,z10,l11,b12=>
  (if b12=true then some (z10,l11)else needF (0≤z1∧z1.toNat<l11.length) (getN l11 (z1.toNat) fun x13=>ds_t183 x13 fun z14 z15 s16 l17 z18 l19 b20=>bO7 (F33z n z14 z15 s16 l17 z18 l19 l2 z3 z4 s5 l6 z7 l8) fun z21 z22 s23 l24 z25 l26 z27=>(if z27=(0:Int)then L114_2 n z1 l2 l11 z21 z22 s23 l24 z25 l26 z27 false else L114_2 n z1 l2 l11 z21 z22 s23 l24 z25 l26 z27 true)))
def F114 (n:Nat) (z1:Int) (l2:List D) (z3:Int) (z4:Int) (s5:ByteArray) (l6:List D) (z7:Int) (l8:List D) (l9:List D):Option (Int×List D):=
 bO2 (F64 n z1 l9) fun z10 l11=>(if z10=(0:Int)then L114_1 n z1 l2 z3 z4 s5 l6 z7 l8 z10 l11 false else L114_1 n z1 l2 z3 z4 s5 l6 z7 l8 z10 l11 true)
theorem T114 (n:Nat):∀⦃z1:Int⦄ ⦃l2:List D⦄ ⦃z3:Int⦄ ⦃z4:Int⦄ ⦃s5:ByteArray⦄ ⦃l6:List D⦄ ⦃z7:Int⦄ ⦃l8:List D⦄ ⦃l9:List D⦄ ⦃r1:Int⦄ ⦃r2:List D⦄,F114 n z1 l2 z3 z4 s5 l6 z7 l8 l9=some (r1,r2)→
    Trip Try.prog inv 114 [.c (.ptr (.ext 0) 0),.d (.int .i64 z1),.d (.list false 1 l2),.d (.agg [.int .u8 z3,.int .i64 z4,.str s5,.list true 6 l6,.int .i64 z7,.list false 1 l8])] [.cells [.ow (.ext 1)],.tree .flat true 7 l9 none] (.v (.d (.int .i64 r1))) [.cells [.ow (.ext 1)],.tree .flat true 7 r2 none] []:=by
 intro z1 l2 z3 z4 s5 l6 z7 l8 l9 r1 r2 h
 unfold F114 at h
 refine Trip.of tab_ok tab_one fol Try.func114 rfl (by kernel_rfl) rfl rfl rfl (fun M hM hI=>?_)
 try cbv
 refine seq_go ?_
 try cbv
 refine seq_go ?_
 try cbv
 replace h:=bO2_inv h
 obtain⟨z10,l11,hr,h⟩:=h
 refine call_go rfl rfl ?_
 try cbv
 refine call_with hM hI [.ext 0,.ext 1] (T64 _ hr) rfl (by simp) ⟨rfl,⟨rfl,trivial⟩⟩ ⟨trivial,⟨trivial,trivial⟩⟩ (by simp) ?_
 clear hr
 try cbv
 refine seq_go ?_
 try cbv
 refine seq_join (T:=Nat×Bool) (fun t=>⟨[(0,.v (.c (.ptr (.ext 0) 0))),(1,.v (.d (.int .i64 z1))),(2,.v (.d (.list false 1 l2))),(7,.v (.c (.ptr (.loc 0) 0))),(8,.v (.d (.int .i64 0))),(9,.v (.d (.int .i64 z10))),(18,.v (.d (.bool t.2)))],[(.ext 0,.cells [.ow (.ext 1)]),(.ext 1,.tree .flat true 7 l11 none),(.loc 0,.cells [.d (.int .u8 z3),.d (.int .i64 z4),.d (.str s5),.d (.list true 6 l6),.d (.int .i64 z7),.d (.list false 1 l8)])],256⟩) (fun t=>t.1≤n∧L114_1 t.1 z1 l2 z3 z4 s5 l6 z7 l8 z10 l11 t.2=some (r1,r2)) ?_ ?_
 ·try cbv
  refine splitI (fun e=>?_) (fun e=>?_)
  ·replace h:=ite_t e h
   clear e
   try cbv
   exact join_next (n,false) [0,1,2,7,8,9,18] [.ext 0,.ext 1,.loc 0] 256 ⟨by omega,h⟩ (by cbv)
  replace h:=ite_f e h
  clear e
  try cbv
  exact join_next (n,true) [0,1,2,7,8,9,18] [.ext 0,.ext 1,.loc 0] 256 ⟨by omega,h⟩ (by cbv)
 clear h
 rintro⟨m1,b12⟩ ⟨hm1,h⟩
 replace hm1:m1≤n:=hm1
 obtain _ | m1:=m1
 ·replace h:L114_1 0 z1 l2 z3 z4 s5 l6 z7 l8 z10 l11 b12=some (r1,r2):=h
  rw[L114_1]at h
  cases h
 replace h:L114_1 (m1+1) z1 l2 z3 z4 s5 l6 z7 l8 z10 l11 b12=some (r1,r2):=h
 rw[L114_1]at h
 try cbv
 cases b12
 rotate_left
 ·replace h:=ite_t rfl h
  try cbv
  refine seq_go ?_
  try cbv
  obtain⟨rfl,rfl⟩:=inj2 h
  refine fin_go ?_
  try cbv
  exact⟨[],rfl,rfl,⟨rfl,⟨rfl,trivial⟩⟩,trivial,trivial⟩
 replace h:=ite_f Bool.false_ne_true h
 try cbv
 refine seq_go ?_
 try cbv
 replace h:=needF_inv h
 obtain⟨hn,h⟩:=h
 refine⟨(M.lock_iff _).2 hn,?_⟩
 clear hn
 try cbv
 replace h:=getN_inv h
 obtain⟨x13,hx,h⟩:=h
 replace h:=ds_t183_inv h
 obtain⟨z14,z15,s16,l17,z18,l19,b20,rfl,h⟩:=h
 refine⟨_,hx,?_⟩
 clear hx
 try cbv
 replace h:=bO7_inv h
 obtain⟨z21,z22,s23,l24,z25,l26,z27,hr,h⟩:=h
 first | refine .inr (.inl ⟨[],?_⟩) | refine .inl ⟨[],?_⟩
 try cbv
 refine call_pure hM hI (T33z _ hr) rfl ?_
 clear hr
 try cbv
 refine drawn ?_ ?_
 ·show _=true
  kernel_rfl
 try cbv
 refine seq_go ?_
 try cbv
 refine seq_join (T:=Nat×Bool) (fun t=>⟨[(0,.v (.c (.ptr (.ext 0) 0))),(1,.v (.d (.int .i64 z1))),(2,.v (.d (.list false 1 l2))),(8,.v (.d (.int .i64 0))),(10,.v (.c (.ptr (.loc 704) 0))),(11,.v (.d (.int .i64 z27))),(35,.v (.d (.bool t.2)))],[(.ext 0,.cells [.ow (.ext 1)]),(.ext 1,.tree .flat true 7 l11 none),(.loc 704,.cells [.d (.int .u8 z21),.d (.int .i64 z22),.d (.str s23),.d (.list true 6 l24),.d (.int .i64 z25),.d (.list false 1 l26)])],864⟩) (fun t=>t.1≤m1∧L114_2 t.1 z1 l2 l11 z21 z22 s23 l24 z25 l26 z27 t.2=some (r1,r2)) ?_ ?_
 ·try cbv
  refine splitI (fun e=>?_) (fun e=>?_)
  ·replace h:=ite_t e h
   clear e
   try cbv
   exact join_next (m1,false) [0,1,2,8,10,11,35] [.ext 0,.ext 1,.loc 704] 864 ⟨by omega,h⟩ (by cbv)
  replace h:=ite_f e h
  clear e
  try cbv
  exact join_next (m1,true) [0,1,2,8,10,11,35] [.ext 0,.ext 1,.loc 704] 864 ⟨by omega,h⟩ (by cbv)
 clear h
 rintro⟨m2,b28⟩ ⟨hm2,h⟩
 replace hm2:m2≤m1:=hm2
 obtain _ | m2:=m2
 ·replace h:L114_2 0 z1 l2 l11 z21 z22 s23 l24 z25 l26 z27 b28=some (r1,r2):=h
  rw[L114_2]at h
  cases h
 replace h:L114_2 (m2+1) z1 l2 l11 z21 z22 s23 l24 z25 l26 z27 b28=some (r1,r2):=h
 rw[L114_2]at h
 try cbv
 cases b28
 rotate_left
 ·replace h:=ite_t rfl h
  try cbv
  refine seq_go ?_
  try cbv
  obtain⟨rfl,rfl⟩:=inj2 h
  refine fin_go ?_
  try cbv
  exact⟨[],rfl,rfl,⟨rfl,⟨rfl,trivial⟩⟩,trivial,trivial⟩
 replace h:=ite_f Bool.false_ne_true h
 try cbv
 refine seq_go ?_
 try cbv
 replace h:=needF_inv h
 obtain⟨hn,h⟩:=h
 refine⟨(M.lock_iff _).2 hn,?_⟩
 clear hn
 try cbv
 replace h:=getN_inv h
 obtain⟨x29,hx,h⟩:=h
 replace h:=ds_t183_inv h
 obtain⟨z30,z31,s32,l33,z34,l35,b36,rfl,h⟩:=h
 refine⟨_,hx,?_⟩
 clear hx
 try cbv
 replace h:=bO7_inv h
 obtain⟨z37,z38,s39,l40,z41,l42,z43,hr,h⟩:=h
 refine call_go rfl rfl ?_
 try cbv
 refine call_pure hM hI (T31 _ hr) rfl ?_
 clear hr
 try cbv
 refine seq_go ?_
 try cbv
 refine seq_join (T:=Nat×Bool) (fun t=>⟨[(0,.v (.c (.ptr (.ext 0) 0))),(1,.v (.d (.int .i64 z1))),(8,.v (.d (.int .i64 0))),(10,.v (.c (.ptr (.loc 704) 0))),(51,.v (.d (.bool t.2)))],[(.ext 0,.cells [.ow (.ext 1)]),(.ext 1,.tree .flat true 7 l11 none),(.loc 704,.cells [.d (.int .u8 z21),.d (.int .i64 z22),.d (.str s23),.d (.list true 6 l24),.d (.int .i64 z25),.d (.list false 1 l26)])],1440⟩) (fun t=>t.1≤m2∧L114_3 t.1 z1 l11 z21 z22 s23 l24 z25 l26 t.2=some (r1,r2)) ?_ ?_
 ·try cbv
  refine splitI (fun e=>?_) (fun e=>?_)
  ·replace h:=ite_t e h
   clear e
   try cbv
   exact join_next (m2,false) [0,1,8,10,51] [.ext 0,.ext 1,.loc 704] 1440 ⟨by omega,h⟩ (by cbv)
  replace h:=ite_f e h
  clear e
  try cbv
  exact join_next (m2,true) [0,1,8,10,51] [.ext 0,.ext 1,.loc 704] 1440 ⟨by omega,h⟩ (by cbv)
 clear h
 rintro⟨m3,b44⟩ ⟨hm3,h⟩
 replace hm3:m3≤m2:=hm3
 obtain _ | m3:=m3
 ·replace h:L114_3 0 z1 l11 z21 z22 s23 l24 z25 l26 b44=some (r1,r2):=h
  rw[L114_3]at h
  cases h
 replace h:L114_3 (m3+1) z1 l11 z21 z22 s23 l24 z25 l26 b44=some (r1,r2):=h
 rw[L114_3]at h
 try cbv
 cases b44
 rotate_left
 ·replace h:=ite_t rfl h
  try cbv
  refine seq_go ?_
  try cbv
  obtain⟨rfl,rfl⟩:=inj2 h
  refine fin_go ?_
  try cbv
  exact⟨[],rfl,rfl,⟨rfl,⟨rfl,trivial⟩⟩,trivial,trivial⟩
 replace h:=ite_f Bool.false_ne_true h
 try cbv
 refine seq_go ?_
 try cbv
 replace h:=needF_inv h
 obtain⟨hn,h⟩:=h
 refine⟨(M.lock_iff _).2 hn,?_⟩
 clear hn
 try cbv
 replace h:=getN_inv h
 obtain⟨x45,hx,h⟩:=h
 replace h:=ds_t183_inv h
 obtain⟨z46,z47,s48,l49,z50,l51,b52,rfl,h⟩:=h
 refine⟨_,hx,?_⟩
 clear hx
 try cbv
 replace h:=setF_inv h
 obtain⟨l53,hz,h⟩:=h
 refine⟨l53,hz,?_⟩
 clear hz
 try cbv
 refine drawn ?_ ?_
 ·show _=true
  kernel_rfl
 try cbv
 refine seq_go ?_
 try cbv
 obtain⟨rfl,rfl⟩:=inj2 h
 refine fin_go ?_
 try cbv
 exact⟨[],rfl,rfl,⟨rfl,⟨rfl,trivial⟩⟩,trivial,trivial⟩
def L117_2:Nat→Int→Int→Int→ByteArray→(List D)→Int→(List D)→(List D)→Int→Int→ByteArray→(List D)→Int→(List D)→Int→Bool→Option (Int×Int×ByteArray×List D×Int×List D×Int×List D)
 | 0,_,_,_,_,_,_,_,_,_,_,_,_,_,_,_,_=>none
 | n+1,z1,z10,z11,s12,l13,z14,l15,l17,z27,z28,s29,l30,z31,l32,z33,b34=>
  (if b34=true then some ((0:Int),(0:Int),ByteArray.empty,([]:List D),(0:Int),([]:List D),z33,l17)else needF (0≤z1∧z1.toNat<l17.length) (getN l17 (z1.toNat) fun x35=>ds_t183 x35 fun z36 z37 s38 l39 z40 l41 b42=>setF l17 (z1.toNat) (.agg [.int .u8 z27,.int .i64 z28,.str s29,.list true 6 l30,.int .i64 z31,.list false 1 l32,.bool b42]) fun l43=>some (z10,z11,s12,l13,z14,l15,(0:Int),l43)))
def L117_1:Nat→Int→(List D)→Int→Int→ByteArray→(List D)→Int→(List D)→Int→Int→ByteArray→(List D)→Int→(List D)→Int→(List D)→Bool→Option (Int×Int×ByteArray×List D×Int×List D×Int×List D)
 | 0,_,_,_,_,_,_,_,_,_,_,_,_,_,_,_,_,_=>none
 | n+1,z1,l2,z3,z4,s5,l6,z7,l8,z10,z11,s12,l13,z14,l15,z16,l17,b18=>
  (if b18=true then some ((0:Int),(0:Int),ByteArray.empty,([]:List D),(0:Int),([]:List D),z16,l17)else needF (0≤z1∧z1.toNat<l17.length) (getN l17 (z1.toNat) fun x19=>ds_t183 x19 fun z20 z21 s22 l23 z24 l25 b26=>bO7 (F33z n z20 z21 s22 l23 z24 l25 l2 z3 z4 s5 l6 z7 l8) fun z27 z28 s29 l30 z31 l32 z33=>(if z33=(0:Int)then L117_2 n z1 z10 z11 s12 l13 z14 l15 l17 z27 z28 s29 l30 z31 l32 z33 false else L117_2 n z1 z10 z11 s12 l13 z14 l15 l17 z27 z28 s29 l30 z31 l32 z33 true)))
def F117 (n:Nat) (z1:Int) (l2:List D) (z3:Int) (z4:Int) (s5:ByteArray) (l6:List D) (z7:Int) (l8:List D) (l9:List D):Option (Int×Int×ByteArray×List D×Int×List D×Int×List D):=
 bO8 (F113 n z1 l2 l9) fun z10 z11 s12 l13 z14 l15 z16 l17=>(if z16=(0:Int)then L117_1 n z1 l2 z3 z4 s5 l6 z7 l8 z10 z11 s12 l13 z14 l15 z16 l17 false else L117_1 n z1 l2 z3 z4 s5 l6 z7 l8 z10 z11 s12 l13 z14 l15 z16 l17 true)
theorem T117 (n:Nat):∀⦃z1:Int⦄ ⦃l2:List D⦄ ⦃z3:Int⦄ ⦃z4:Int⦄ ⦃s5:ByteArray⦄ ⦃l6:List D⦄ ⦃z7:Int⦄ ⦃l8:List D⦄ ⦃l9:List D⦄ ⦃r1:Int⦄ ⦃r2:Int⦄ ⦃r3:ByteArray⦄ ⦃r4:List D⦄ ⦃r5:Int⦄ ⦃r6:List D⦄ ⦃r7:Int⦄ ⦃r8:List D⦄,F117 n z1 l2 z3 z4 s5 l6 z7 l8 l9=some (r1,r2,r3,r4,r5,r6,r7,r8)→
    Trip Try.prog inv 117 [.c (.ptr (.ext 0) 0),.d (.int .i64 z1),.d (.list false 1 l2),.d (.agg [.int .u8 z3,.int .i64 z4,.str s5,.list true 6 l6,.int .i64 z7,.list false 1 l8])] [.cells [.ow (.ext 1)],.tree .flat true 7 l9 none] (.t [.d (.agg [.int .u8 r1,.int .i64 r2,.str r3,.list true 6 r4,.int .i64 r5,.list false 1 r6]),.d (.int .i64 r7)]) [.cells [.ow (.ext 1)],.tree .flat true 7 r8 none] []:=by
 intro z1 l2 z3 z4 s5 l6 z7 l8 l9 r1 r2 r3 r4 r5 r6 r7 r8 h
 unfold F117 at h
 refine Trip.of tab_ok tab_one fol Try.func117 rfl (by kernel_rfl) rfl rfl rfl (fun M hM hI=>?_)
 try cbv
 refine seq_go ?_
 try cbv
 refine seq_go ?_
 try cbv
 replace h:=bO8_inv h
 obtain⟨z10,z11,s12,l13,z14,l15,z16,l17,hr,h⟩:=h
 refine call_go rfl rfl ?_
 try cbv
 refine call_with hM hI [.ext 0,.ext 1] (T113 _ hr) rfl (by simp) ⟨rfl,⟨rfl,trivial⟩⟩ ⟨trivial,⟨trivial,trivial⟩⟩ (by simp) ?_
 clear hr
 try cbv
 refine seq_go ?_
 try cbv
 refine seq_join (T:=Nat×Bool) (fun t=>⟨[(0,.v (.c (.ptr (.ext 0) 0))),(1,.v (.d (.int .i64 z1))),(2,.v (.d (.list false 1 l2))),(7,.v (.c (.ptr (.loc 0) 0))),(8,.v (.c (.ptr (.loc 32) 0))),(9,.v (.d (.int .i64 0))),(10,.v (.c (.ptr (.loc 320) 0))),(11,.v (.d (.int .i64 z16))),(22,.v (.d (.bool t.2)))],[(.ext 0,.cells [.ow (.ext 1)]),(.ext 1,.tree .flat true 7 l17 none),(.loc 0,.cells [.d (.int .u8 z3),.d (.int .i64 z4),.d (.str s5),.d (.list true 6 l6),.d (.int .i64 z7),.d (.list false 1 l8)]),(.loc 32,.cells [.d (.int .u8 0),.d (.int .i64 0),.d (.str ByteArray.empty),.nils true 6,.d (.int .i64 0),.nils false 1]),(.loc 320,.cells [.d (.int .u8 z10),.d (.int .i64 z11),.d (.str s12),.d (.list true 6 l13),.d (.int .i64 z14),.d (.list false 1 l15)])],480⟩) (fun t=>t.1≤n∧L117_1 t.1 z1 l2 z3 z4 s5 l6 z7 l8 z10 z11 s12 l13 z14 l15 z16 l17 t.2=some (r1,r2,r3,r4,r5,r6,r7,r8)) ?_ ?_
 ·try cbv
  refine splitI (fun e=>?_) (fun e=>?_)
  ·replace h:=ite_t e h
   clear e
   try cbv
   exact join_next (n,false) [0,1,2,7,8,9,10,11,22] [.ext 0,.ext 1,.loc 0,.loc 32,.loc 320] 480 ⟨by omega,h⟩ (by cbv)
  replace h:=ite_f e h
  clear e
  try cbv
  exact join_next (n,true) [0,1,2,7,8,9,10,11,22] [.ext 0,.ext 1,.loc 0,.loc 32,.loc 320] 480 ⟨by omega,h⟩ (by cbv)
 clear h
 rintro⟨m1,b18⟩ ⟨hm1,h⟩
 replace hm1:m1≤n:=hm1
 obtain _ | m1:=m1
 ·replace h:L117_1 0 z1 l2 z3 z4 s5 l6 z7 l8 z10 z11 s12 l13 z14 l15 z16 l17 b18=some (r1,r2,r3,r4,r5,r6,r7,r8):=h
  rw[L117_1]at h
  cases h
 replace h:L117_1 (m1+1) z1 l2 z3 z4 s5 l6 z7 l8 z10 z11 s12 l13 z14 l15 z16 l17 b18=some (r1,r2,r3,r4,r5,r6,r7,r8):=h
 rw[L117_1]at h
 try cbv
 cases b18
 rotate_left
 ·replace h:=ite_t rfl h
  try cbv
  refine seq_go ?_
  try cbv
  obtain⟨rfl,rfl,rfl,rfl,rfl,rfl,rfl,rfl⟩:=inj8 h
  refine fin_go ?_
  try cbv
  exact⟨[],rfl,rfl,⟨rfl,⟨rfl,trivial⟩⟩,trivial,trivial⟩
 replace h:=ite_f Bool.false_ne_true h
 try cbv
 refine seq_go ?_
 try cbv
 replace h:=needF_inv h
 obtain⟨hn,h⟩:=h
 refine⟨(M.lock_iff _).2 hn,?_⟩
 clear hn
 try cbv
 replace h:=getN_inv h
 obtain⟨x19,hx,h⟩:=h
 replace h:=ds_t183_inv h
 obtain⟨z20,z21,s22,l23,z24,l25,b26,rfl,h⟩:=h
 refine⟨_,hx,?_⟩
 clear hx
 try cbv
 replace h:=bO7_inv h
 obtain⟨z27,z28,s29,l30,z31,l32,z33,hr,h⟩:=h
 first | refine .inr (.inl ⟨[],?_⟩) | refine .inl ⟨[],?_⟩
 try cbv
 refine call_pure hM hI (T33z _ hr) rfl ?_
 clear hr
 try cbv
 refine drawn ?_ ?_
 ·show _=true
  kernel_rfl
 try cbv
 refine seq_go ?_
 try cbv
 refine seq_join (T:=Nat×Bool) (fun t=>⟨[(0,.v (.c (.ptr (.ext 0) 0))),(1,.v (.d (.int .i64 z1))),(8,.v (.c (.ptr (.loc 32) 0))),(9,.v (.d (.int .i64 0))),(10,.v (.c (.ptr (.loc 320) 0))),(12,.v (.c (.ptr (.loc 928) 0))),(13,.v (.d (.int .i64 z33))),(40,.v (.d (.bool t.2)))],[(.ext 0,.cells [.ow (.ext 1)]),(.ext 1,.tree .flat true 7 l17 none),(.loc 32,.cells [.d (.int .u8 0),.d (.int .i64 0),.d (.str ByteArray.empty),.nils true 6,.d (.int .i64 0),.nils false 1]),(.loc 320,.cells [.d (.int .u8 z10),.d (.int .i64 z11),.d (.str s12),.d (.list true 6 l13),.d (.int .i64 z14),.d (.list false 1 l15)]),(.loc 928,.cells [.d (.int .u8 z27),.d (.int .i64 z28),.d (.str s29),.d (.list true 6 l30),.d (.int .i64 z31),.d (.list false 1 l32)])],1088⟩) (fun t=>t.1≤m1∧L117_2 t.1 z1 z10 z11 s12 l13 z14 l15 l17 z27 z28 s29 l30 z31 l32 z33 t.2=some (r1,r2,r3,r4,r5,r6,r7,r8)) ?_ ?_
 ·try cbv
  refine splitI (fun e=>?_) (fun e=>?_)
  ·replace h:=ite_t e h
   clear e
   try cbv
   exact join_next (m1,false) [0,1,8,9,10,12,13,40] [.ext 0,.ext 1,.loc 32,.loc 320,.loc 928] 1088 ⟨by omega,h⟩ (by cbv)
  replace h:=ite_f e h
  clear e
  try cbv
  exact join_next (m1,true) [0,1,8,9,10,12,13,40] [.ext 0,.ext 1,.loc 32,.loc 320,.loc 928] 1088 ⟨by omega,h⟩ (by cbv)
 clear h
 rintro⟨m2,b34⟩ ⟨hm2,h⟩
 replace hm2:m2≤m1:=hm2
 obtain _ | m2:=m2
 ·replace h:L117_2 0 z1 z10 z11 s12 l13 z14 l15 l17 z27 z28 s29 l30 z31 l32 z33 b34=some (r1,r2,r3,r4,r5,r6,r7,r8):=h
  rw[L117_2]at h
  cases h
 replace h:L117_2 (m2+1) z1 z10 z11 s12 l13 z14 l15 l17 z27 z28 s29 l30 z31 l32 z33 b34=some (r1,r2,r3,r4,r5,r6,r7,r8):=h
 rw[L117_2]at h
 try cbv
 cases b34
 rotate_left
 ·replace h:=ite_t rfl h
  try cbv
  refine seq_go ?_
  try cbv
  obtain⟨rfl,rfl,rfl,rfl,rfl,rfl,rfl,rfl⟩:=inj8 h
  refine fin_go ?_
  try cbv
  exact⟨[],rfl,rfl,⟨rfl,⟨rfl,trivial⟩⟩,trivial,trivial⟩
 replace h:=ite_f Bool.false_ne_true h
 try cbv
 refine seq_go ?_
 try cbv
 replace h:=needF_inv h
 obtain⟨hn,h⟩:=h
 refine⟨(M.lock_iff _).2 hn,?_⟩
 clear hn
 try cbv
 replace h:=getN_inv h
 obtain⟨x35,hx,h⟩:=h
 replace h:=ds_t183_inv h
 obtain⟨z36,z37,s38,l39,z40,l41,b42,rfl,h⟩:=h
 refine⟨_,hx,?_⟩
 clear hx
 try cbv
 replace h:=setF_inv h
 obtain⟨l43,hz,h⟩:=h
 refine⟨l43,hz,?_⟩
 clear hz
 try cbv
 refine drawn ?_ ?_
 ·show _=true
  kernel_rfl
 try cbv
 refine seq_go ?_
 try cbv
 obtain⟨rfl,rfl,rfl,rfl,rfl,rfl,rfl,rfl⟩:=inj8 h
 refine fin_go ?_
 try cbv
 exact⟨[],rfl,rfl,⟨rfl,⟨rfl,trivial⟩⟩,trivial,trivial⟩
def F116 (n:Nat) (z1:Int) (l2:List D) (l3:List D):Option (Int×Int×ByteArray×List D×Int×List D×Int×List D):=
 bO8 (F117 n z1 l2 (0:Int) (0:Int) ByteArray.empty ([]:List D) (0:Int) ([]:List D) l3) fun z4 z5 s6 l7 z8 l9 z10 l11=>some (z4,z5,s6,l7,z8,l9,z10,l11)
theorem T116 (n:Nat):∀⦃z1:Int⦄ ⦃l2:List D⦄ ⦃l3:List D⦄ ⦃r1:Int⦄ ⦃r2:Int⦄ ⦃r3:ByteArray⦄ ⦃r4:List D⦄ ⦃r5:Int⦄ ⦃r6:List D⦄ ⦃r7:Int⦄ ⦃r8:List D⦄,F116 n z1 l2 l3=some (r1,r2,r3,r4,r5,r6,r7,r8)→
    Trip Try.prog inv 116 [.c (.ptr (.ext 0) 0),.d (.int .i64 z1),.d (.list false 1 l2)] [.cells [.ow (.ext 1)],.tree .flat true 7 l3 none] (.t [.d (.agg [.int .u8 r1,.int .i64 r2,.str r3,.list true 6 r4,.int .i64 r5,.list false 1 r6]),.d (.int .i64 r7)]) [.cells [.ow (.ext 1)],.tree .flat true 7 r8 none] []:=by
 intro z1 l2 l3 r1 r2 r3 r4 r5 r6 r7 r8 h
 unfold F116 at h
 refine Trip.of tab_ok tab_one fol Try.func116 rfl (by kernel_rfl) rfl rfl rfl (fun M hM hI=>?_)
 try cbv
 refine seq_go ?_
 try cbv
 refine seq_go ?_
 try cbv
 replace h:=bO8_inv h
 obtain⟨z4,z5,s6,l7,z8,l9,z10,l11,hr,h⟩:=h
 refine call_go rfl rfl ?_
 try cbv
 refine call_with hM hI [.ext 0,.ext 1] (T117 _ hr) rfl (by simp) ⟨rfl,⟨rfl,trivial⟩⟩ ⟨trivial,⟨trivial,trivial⟩⟩ (by simp) ?_
 clear hr
 try cbv
 obtain⟨rfl,rfl,rfl,rfl,rfl,rfl,rfl,rfl⟩:=inj8 h
 refine fin_go ?_
 try cbv
 exact⟨[],rfl,rfl,⟨rfl,⟨rfl,trivial⟩⟩,trivial,trivial⟩
def L118_2:Nat→Int→(List D)→Bool→Option (Int×Int×ByteArray×List D×Int×List D×Int×List D)
 | 0,_,_,_=>none
 | n+1,z1,l4,b6=>
  (if b6=true then some ((0:Int),(0:Int),ByteArray.empty,([]:List D),(0:Int),([]:List D),(2:Int),l4)else needF (0≤z1∧z1.toNat<l4.length) (getN l4 (z1.toNat) fun x7=>ds_t183 x7 fun z8 z9 s10 l11 z12 l13 b14=>needF (0≤z1∧z1.toNat<l4.length) (getN l4 (z1.toNat) fun x15=>ds_t183 x15 fun z16 z17 s18 l19 z20 l21 b22=>setF l4 (z1.toNat) (.agg [.int .u8 0,.int .i64 0,.str ByteArray.empty,.list true 6 [],.int .i64 0,.list false 1 [],.bool true]) fun l23=>some (z8,z9,s10,l11,z12,l13,(0:Int),l23))))
def L118_1:Nat→Int→Int→(List D)→Bool→Option (Int×Int×ByteArray×List D×Int×List D×Int×List D)
 | 0,_,_,_,_=>none
 | n+1,z1,z3,l4,b5=>
  (if b5=true then some ((0:Int),(0:Int),ByteArray.empty,([]:List D),(0:Int),([]:List D),(6:Int),l4)else (if z3=(1:Int)then L118_2 n z1 l4 true else L118_2 n z1 l4 false))
def F118 (n:Nat) (z1:Int) (l2:List D):Option (Int×Int×ByteArray×List D×Int×List D×Int×List D):=
 bO2 (F64 n z1 l2) fun z3 l4=>(if z3=(6:Int)then L118_1 n z1 z3 l4 true else L118_1 n z1 z3 l4 false)
theorem T118 (n:Nat):∀⦃z1:Int⦄ ⦃l2:List D⦄ ⦃r1:Int⦄ ⦃r2:Int⦄ ⦃r3:ByteArray⦄ ⦃r4:List D⦄ ⦃r5:Int⦄ ⦃r6:List D⦄ ⦃r7:Int⦄ ⦃r8:List D⦄,F118 n z1 l2=some (r1,r2,r3,r4,r5,r6,r7,r8)→
    Trip Try.prog inv 118 [.c (.ptr (.ext 0) 0),.d (.int .i64 z1)] [.cells [.ow (.ext 1)],.tree .flat true 7 l2 none] (.t [.d (.agg [.int .u8 r1,.int .i64 r2,.str r3,.list true 6 r4,.int .i64 r5,.list false 1 r6]),.d (.int .i64 r7)]) [.cells [.ow (.ext 1)],.tree .flat true 7 r8 none] []:=by
 intro z1 l2 r1 r2 r3 r4 r5 r6 r7 r8 h
 unfold F118 at h
 refine Trip.of tab_ok tab_one fol Try.func118 rfl (by kernel_rfl) rfl rfl rfl (fun M hM hI=>?_)
 try cbv
 refine seq_go ?_
 try cbv
 refine seq_go ?_
 try cbv
 refine seq_go ?_
 try cbv
 replace h:=bO2_inv h
 obtain⟨z3,l4,hr,h⟩:=h
 refine call_go rfl rfl ?_
 try cbv
 refine call_with hM hI [.ext 0,.ext 1] (T64 _ hr) rfl (by simp) ⟨rfl,⟨rfl,trivial⟩⟩ ⟨trivial,⟨trivial,trivial⟩⟩ (by simp) ?_
 clear hr
 try cbv
 refine seq_join (T:=Nat×Bool) (fun t=>⟨[(0,.v (.c (.ptr (.ext 0) 0))),(1,.v (.d (.int .i64 z1))),(4,.v (.c (.ptr (.loc 0) 0))),(5,.v (.d (.int .i64 0))),(9,.v (.d (.int .i64 z3))),(10,.v (.d (.bool t.2)))],[(.ext 0,.cells [.ow (.ext 1)]),(.ext 1,.tree .flat true 7 l4 none),(.loc 0,.cells [.d (.int .u8 0),.d (.int .i64 0),.d (.str ByteArray.empty),.nils true 6,.d (.int .i64 0),.nils false 1])],224⟩) (fun t=>t.1≤n∧L118_1 t.1 z1 z3 l4 t.2=some (r1,r2,r3,r4,r5,r6,r7,r8)) ?_ ?_
 ·try cbv
  refine splitI (fun e=>?_) (fun e=>?_)
  ·replace h:=ite_t e h
   clear e
   try cbv
   exact join_next (n,true) [0,1,4,5,9,10] [.ext 0,.ext 1,.loc 0] 224 ⟨by omega,h⟩ (by cbv)
  replace h:=ite_f e h
  clear e
  try cbv
  exact join_next (n,false) [0,1,4,5,9,10] [.ext 0,.ext 1,.loc 0] 224 ⟨by omega,h⟩ (by cbv)
 clear h
 rintro⟨m1,b5⟩ ⟨hm1,h⟩
 replace hm1:m1≤n:=hm1
 obtain _ | m1:=m1
 ·replace h:L118_1 0 z1 z3 l4 b5=some (r1,r2,r3,r4,r5,r6,r7,r8):=h
  rw[L118_1]at h
  cases h
 replace h:L118_1 (m1+1) z1 z3 l4 b5=some (r1,r2,r3,r4,r5,r6,r7,r8):=h
 rw[L118_1]at h
 try cbv
 cases b5
 rotate_left
 ·replace h:=ite_t rfl h
  try cbv
  refine seq_go ?_
  try cbv
  obtain⟨rfl,rfl,rfl,rfl,rfl,rfl,rfl,rfl⟩:=inj8 h
  refine fin_go ?_
  try cbv
  exact⟨[],rfl,rfl,⟨rfl,⟨rfl,trivial⟩⟩,trivial,trivial⟩
 replace h:=ite_f Bool.false_ne_true h
 try cbv
 refine seq_join (T:=Nat×Bool) (fun t=>⟨[(0,.v (.c (.ptr (.ext 0) 0))),(1,.v (.d (.int .i64 z1))),(4,.v (.c (.ptr (.loc 0) 0))),(5,.v (.d (.int .i64 0))),(13,.v (.d (.bool t.2)))],[(.ext 0,.cells [.ow (.ext 1)]),(.ext 1,.tree .flat true 7 l4 none),(.loc 0,.cells [.d (.int .u8 0),.d (.int .i64 0),.d (.str ByteArray.empty),.nils true 6,.d (.int .i64 0),.nils false 1])],288⟩) (fun t=>t.1≤m1∧L118_2 t.1 z1 l4 t.2=some (r1,r2,r3,r4,r5,r6,r7,r8)) ?_ ?_
 ·try cbv
  refine splitI (fun e=>?_) (fun e=>?_)
  ·replace h:=ite_t e h
   clear e
   try cbv
   exact join_next (m1,true) [0,1,4,5,13] [.ext 0,.ext 1,.loc 0] 288 ⟨by omega,h⟩ (by cbv)
  replace h:=ite_f e h
  clear e
  try cbv
  exact join_next (m1,false) [0,1,4,5,13] [.ext 0,.ext 1,.loc 0] 288 ⟨by omega,h⟩ (by cbv)
 clear h
 rintro⟨m2,b6⟩ ⟨hm2,h⟩
 replace hm2:m2≤m1:=hm2
 obtain _ | m2:=m2
 ·replace h:L118_2 0 z1 l4 b6=some (r1,r2,r3,r4,r5,r6,r7,r8):=h
  rw[L118_2]at h
  cases h
 replace h:L118_2 (m2+1) z1 l4 b6=some (r1,r2,r3,r4,r5,r6,r7,r8):=h
 rw[L118_2]at h
 try cbv
 cases b6
 rotate_left
 ·replace h:=ite_t rfl h
  try cbv
  refine seq_go ?_
  try cbv
  obtain⟨rfl,rfl,rfl,rfl,rfl,rfl,rfl,rfl⟩:=inj8 h
  refine fin_go ?_
  try cbv
  exact⟨[],rfl,rfl,⟨rfl,⟨rfl,trivial⟩⟩,trivial,trivial⟩
 replace h:=ite_f Bool.false_ne_true h
 try cbv
 refine seq_go ?_
 try cbv
 replace h:=needF_inv h
 obtain⟨hn,h⟩:=h
 refine⟨(M.lock_iff _).2 hn,?_⟩
 clear hn
 try cbv
 replace h:=getN_inv h
 obtain⟨x7,hx,h⟩:=h
 replace h:=ds_t183_inv h
 obtain⟨z8,z9,s10,l11,z12,l13,b14,rfl,h⟩:=h
 refine⟨_,hx,?_⟩
 clear hx
 try cbv
 refine seq_go ?_
 try cbv
 replace h:=needF_inv h
 obtain⟨hn,h⟩:=h
 refine⟨(M.lock_iff _).2 hn,?_⟩
 clear hn
 try cbv
 replace h:=getN_inv h
 obtain⟨x15,hx,h⟩:=h
 replace h:=ds_t183_inv h
 obtain⟨z16,z17,s18,l19,z20,l21,b22,rfl,h⟩:=h
 refine⟨_,hx,?_⟩
 clear hx
 try cbv
 replace h:=setF_inv h
 obtain⟨l23,hz,h⟩:=h
 refine⟨l23,hz,?_⟩
 clear hz
 try cbv
 refine seq_go ?_
 try cbv
 obtain⟨rfl,rfl,rfl,rfl,rfl,rfl,rfl,rfl⟩:=inj8 h
 refine fin_go ?_
 try cbv
 exact⟨[],rfl,rfl,⟨rfl,⟨rfl,trivial⟩⟩,trivial,trivial⟩
end Go.Proofs.Ytiiojajgajnhpaa
end
