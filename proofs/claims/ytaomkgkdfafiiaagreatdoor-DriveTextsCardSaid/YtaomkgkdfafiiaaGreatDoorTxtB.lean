/- Part of a proof. No condition. (Part 2.) -/
import Derived.Laws.Tables
import Derived.ArgAppend
import Derived.Laws.AppendOwn
import Derived.Laws.IdiomCopy
import Derived.Laws.StructEq
import Derived.Laws.BytesString
import Derived.Laws.Externs
import Derived.MapKept
import Derived.Laws.OwnMore
import Derived.Laws.Small
import Derived.Test.YtaomkgkdfafiiaaGreatDoorTxtA
set_option linter.unusedVariables false
set_option linter.unusedSimpArgs false
namespace Go.AM
open Go Go.RowKit
theorem DU {l:List (Id×AB)}{i:Id}:∀{h:AE},i∉l.map (·.1)→Aq h l i=h i:=by
 induction l with
 | nil=>intro h _;rfl
 | cons x l ih=>
  intro h hi
  simp only[List.map_cons,List.mem_cons,not_or]at hi
  show Aq (AJ h x.1 x.2) l i=_
  rw[ih hi.2]
  simp[AJ,hi.1]
theorem Vs {l:List (Id×AB)}{i:Id}{o:AB}:∀{h:AE},(l.map (·.1)).Nodup→(i,o)∈l→Aq h l i=some o:=by
 induction l with
 | nil=>intro h _ hi;simp at hi
 | cons x l ih=>
  intro h hn hi
  simp only[List.map_cons,List.nodup_cons]at hn
  show Aq (AJ h x.1 x.2) l i=_
  rcases List.mem_cons.1 hi with rfl | hi
  ·rw[DU hn.1]
   simp[AJ]
  ·exact ih hn.2 hi
theorem Sl {r:Id→Id}:∀{m:List Id}{post:List AB},m.length=post.length→(Iv m r post).map (·.1)=m
 | [],[],_=>rfl
 | i::m,o::post,h=>by simp[Iv,Sl (m:=m) (post:=post) (by simpa using h)]
theorem Vt {r:Id→Id}:∀{m:List Id}{post:List AB}{j:Nat}{i:Id}{o:AB},m[j]?=some i→post[j]?=some o→(i,o.Ar r)∈Iv m r post
 | i::m,o::post,0,_,_,h1,h2=>by simp at h1 h2;subst h1;subst h2;simp[Iv]
 | i::m,o::post,j+1,i',o',h1,h2=>by
  simp at h1 h2
  simp only[Iv,List.mem_cons]
  exact .inr (Vt h1 h2)
theorem NK {r:Id→Id}{fresh:Nat}:∀{new:List AB}{k:Nat},(B4 fresh r k new).map (·.1)=(List.range' k new.length).map (fun n=>Id.loc (fresh+n))
 | [],k=>rfl
 | o::new,k=>by simp[B4,NK (new:=new) (k:=k+1),List.range'_succ]
theorem PY {r:Id→Id}{fresh:Nat}:∀{new:List AB}{k j:Nat}{o:AB},new[j]?=some o→(Id.loc (fresh+(k+j)),o.Ar r)∈B4 fresh r k new
 | o::new,k,0,_,h=>by simp at h;subst h;simp[B4]
 | o::new,k,j+1,o',h=>by
  simp at h
  have:=PY (r:=r) (fresh:=fresh) (k:=k+1) h
  simp only[B4,List.mem_cons]
  exact .inr (by rw[show k+(j+1)=k+1+j from by omega];exact this)
theorem Dm:∀{pre post:List AB}{j:Nat}{o:AB},BI pre post→post[j]?=some o→∃o0,pre[j]?=some o0∧sameKind o0 o
 | a::pre,b::post,0,o,h,hj=>by simp at hj;subst hj;exact⟨a,rfl,h.1⟩
 | a::pre,b::post,j+1,o,h,hj=>by
  simp at hj
  obtain⟨o0,h1,h2⟩:=Dm (j:=j) h.2 hj
  exact⟨o0,by simpa using h1,h2⟩
 | [],[],j,o,h,hj=>by simp at hj
theorem Ei:∀{pre post:List AB},BI pre post→post.length=pre.length
 | [],[],_=>rfl
 | _::_,_::_,h=>by simp[Ei h.2]
theorem Jo {a b:AB}(h:sameKind a b) (k:isLive (some b)=true):isLive (some a)=true:=by
 cases b<;>simp[isLive]at k<;>cases a<;>simp[sameKind]at h<;>rfl
theorem Sm {a:Option Addr}(h:isTu (.pointer a)):False:=by obtain⟨_,_,h,_⟩:=h;cases h
theorem Sn {a:Option Nat}(h:isTu (.map a)):False:=by obtain⟨_,_,h,_⟩:=h;cases h
theorem CQ.eq {u v:Value}(h:CQ u v) (k:¬isTu u):v=u:=by
 rcases h with h | h
 ·exact h
 ·exact absurd h.1 k
theorem CQ.gval {u v:Value}(h:CQ u v):gval v=gval u:=by
 rcases h with rfl | h
 ·rfl
 ·exact h.2.2
theorem CQ.isTu {u v:Value}(h:CQ u v) (k:isTu u):isTu v:=by
 rcases h with rfl | h
 ·exact k
 ·exact h.2.1
theorem DC {C:Cx}{F:Nat→Prop}{σs:AN}{σh:AE}{g:AL}{a:Act}{w:World}{fresh:Nat}
  {m:List Id} {targs:List V1} {pre:List AB} {Qp:AV→List AB→List AB→Prop} {vals:Array Value} {dst:Option Tmp} {Q:Exit→Act→World→Prop} {Run:(Ending→World→Prop)→Prop}
  (R:AR C F σs σh g a w) (hmono:∀{p q:Ending→World→Prop},(∀e w,p e w→q e w)→Run p→Run q)
  (hrun:∀X g1,(∀i,g1 i=g (Av m fresh i))→(∀b o,X b o→b<w.heap.size)→C.M.I.at w (Al (zone g1 (Ae pre)) X)→C9 w X g1 (Ae pre)→(∀n,g1 (.loc n)=undef)→
   (∀(j:Nat) x v,targs[j]?=some x→vals[j]?=some v→Ag w (Al (zone g1 (Ae pre)) X) g1 (Ae pre) x v)→
   Run fun e w'=>∃v g' res post new,Qp res post new∧e= .returned v∧Bq w X g1 pre res post new v w' g')
  (hlen:m.length=pre.length) (hnd:m.Nodup)
  (hpre:∀(j:Nat) i o,m[j]?=some i→pre[j]?=some o→σh i=some (o.Ar (Av m fresh))) (hQp:∀res post new,Qp res post new→BI pre post∧new.length≤31)
  (hF:∀k,k<32→F (fresh+k)) (hd:∀d,dst=some d→d<C.nt)
  (hargs:∀(j:Nat) x v,(targs.map (V1.Ar (Av m fresh)))[j]?=some x→vals[j]?=some v→Ag w (Al (zone g σh) C.X) g σh x v):
  Run fun
   | .returned v,w''=>∃res post new,Qp res post new∧∃g2,(∀i q,g i= .map (some q)→g2 i=g i)∧AR C (fun n=>F n∧¬(fresh≤n∧n<fresh+32)) (Bp σs dst (res.Ar (Av m fresh))) (Aq σh (Iv m (Av m fresh) post++B4 fresh (Av m fresh) 0 new)) g2 (a.put dst v) w''
   | .panicked chain,w''=>Q (.panic chain) a w''
   | .outgrown,_=>LetsOut Q:=by
 let r:=Av m fresh
 have hr:r=Av m fresh:=rfl
 let gc:AL:=fun i=>g (r i)
 let hc:AE:=Ae pre
 let Xc:Ad:=fun b o=>C.X b o∨∃i ob,σh i=some ob∧i∉m∧BL (g i) ob b o
 have rin:∀j i,m[j]?=some i→r (.ext j)=i:=fun j i hj=>by simp[hr,Av,hj]
 have rout:∀j,m[j]?=none→r (.ext j)= .loc (fresh+31):=fun j hj=>by simp[hr,Av,hj]
 have rloc:∀k,k<31→r (.loc k)= .loc (fresh+k):=fun k hk=>by simp[hr,Av,hk]
 have rloc7:∀k,31≤k→r (.loc k)= .loc (fresh+31):=fun k hk=>by simp[hr,Av,show ¬k<31 from by omega]
 have free:∀k,k<32→g (.loc (fresh+k))=undef∧σh (.loc (fresh+k))=none:=fun k hk=>R.free _ (hF k hk)
 have gcl:∀n,gc (.loc n)=undef:=by
  intro n
  by_cases hn:n<31
  ·show g (r (.loc n))=_
   rw[rloc n hn];exact (free n (by omega)).1
  ·show g (r (.loc n))=_
   rw[rloc7 n (by omega)];exact (free 31 (by omega)).1
 have hcs:∀i o,hc i=some o→∃j,i= .ext j∧m[j]?=some (r i)∧pre[j]?=some o∧σh (r i)=some (o.Ar r):=by
  intro i o hi
  cases i with
  | loc n=>simp[hc,Ae]at hi
  | ext j=>
   have hi':pre[j]?=some o:=hi
   have hlt:j<m.length:=by rw[hlen];exact (List.getElem?_eq_some_iff.1 hi').1
   have hm:m[j]?=some m[j]:=by simp[hlt]
   exact⟨j,rfl,by rw[rin j _ hm];exact hm,hi',by rw[rin j _ hm];exact hpre j _ o hm hi'⟩
 have hzc:∀b o,zone gc hc b o→zone g σh b o:=by
  rintro b o ⟨i,ob,hi,h1⟩
  obtain⟨j,rfl,hm,_,hs⟩:=hcs i ob hi
  exact⟨_,_,hs,Co.2 h1⟩
 have hz:∀b o,Al (zone gc hc) Xc b o→Al (zone g σh) C.X b o:=by
  rintro b o (h1 | h1 | ⟨i,ob,hi,_,h1⟩)
  ·exact .inl (hzc b o h1)
  ·exact .inr h1
  ·exact .inl ⟨i,ob,hi,h1⟩
 have htok:∀i n sz e,hc i=some (.tok n sz e)→σh (r i)=some (.tok n sz e):=by
  intro i n sz e hi
  obtain⟨j,rfl,hm,_,hs⟩:=hcs i _ hi
  exact hs
 have hown:∀i,isLive (hc i)=true→isLive (σh (r i))=true:=by
  intro i hi
  cases ho:hc i with
  | none=>rw[ho]at hi;cases hi
  | some o=>
   obtain⟨j,rfl,hm,_,hs⟩:=hcs i _ ho
   rw[hs]
   rw[ho]at hi
   exact DS.trans hi
 have hXlt:∀b o,Xc b o→b<w.heap.size:=by
  rintro b o (h1 | ⟨i,ob,hi,_,h1⟩)
  ·exact Nat.lt_of_lt_of_le (R.xs b o h1) R.frame.size
  ·exact (R.heap.objs i ob hi).lt h1.F7
 have RH:C9 w Xc gc hc:=by
  refine⟨fun i o hi=>?_,fun i i' oi oi' b hi hi' bi bi'=>?_,fun i oi b o hi bi hx=>?_⟩
  ·obtain⟨j,rfl,hm,_,hs⟩:=hcs i o hi
   exact BH.pull (r:=r) hz (fun _=>rfl) htok hown (R.heap.objs _ _ hs)
  ·obtain⟨j,rfl,hm,_,hs⟩:=hcs i oi hi
   obtain⟨j',rfl,hm',_,hs'⟩:=hcs i' oi' hi'
   have e:=R.heap.sep _ _ _ _ b hs hs' (DA.2 bi) (DA.2 bi')
   rw[e]at hm
   have:=(List.getElem?_inj (List.getElem?_eq_some_iff.1 hm).1 hnd).1 (hm.trans hm'.symm)
   rw[this]
  ·obtain⟨j,rfl,hm,_,hs⟩:=hcs i oi hi
   rcases hx with hx | ⟨i',ob,hi',hni,h1⟩
   ·exact R.heap.apart _ _ b o hs (DA.2 bi) hx
   ·have e:=R.heap.sep _ _ _ _ b hs hi' (DA.2 bi) h1.F7
    exact hni (e▸List.mem_of_getElem? hm)
 refine hmono ?_ (hrun Xc gc (fun _=>rfl) hXlt (R.inv.mono hz) RH gcl (fun j x v hx hv=>?_))
 rotate_left
 ·exact Ag.pull (r:=r) hz (fun _=>rfl) htok hown (hargs j (x.Ar r) v (by simp[hx,hr]) hv)
 rintro e w' ⟨v,g',res,post,new,hqp,rfl,CP⟩
 obtain⟨hk,hnew⟩:=hQp res post new hqp
 refine⟨res,post,new,hqp,?_⟩
 -- the new ghost, the new heap
 have pick:∀i,i∈m→∃j,m[j]?=some i:=fun i hi=>List.mem_iff_getElem?.1 hi
 let g2:AL:=fun i=>if hi:i∈m then g' (.ext (Classical.choose (pick i hi)))else match i with
  | .loc n=>if fresh≤n∧n<fresh+32 then g' (.loc (n - fresh))else g i
  | .ext j=>g (.ext j)
 let hc2:AE:=Bi post new
 let h2:AE:=Aq σh (Iv m (Av m fresh) post++B4 fresh (Av m fresh) 0 new)
 have mlive:∀i,i∈m→σh i≠none:=by
  intro i hi
  obtain⟨j,hj⟩:=List.mem_iff_getElem?.1 hi
  have hlt:j<pre.length:=by rw[←hlen];exact (List.getElem?_eq_some_iff.1 hj).1
  rw[hpre j i pre[j] hj (by simp[hlt])]
  simp
 have mfresh:∀k,k<32→Id.loc (fresh+k)∉m:=fun k hk hm=>mlive _ hm (free k hk).2
 have plen:post.length=pre.length:=Ei hk
 have keys:((Iv m (Av m fresh) post++B4 fresh (Av m fresh) 0 new).map (·.1))=m++(List.range' 0 new.length).map (fun n=>Id.loc (fresh+n)):=by
  rw[List.map_append,Sl (by omega),NK]
 have knd:((Iv m (Av m fresh) post++B4 fresh (Av m fresh) 0 new).map (·.1)).Nodup:=by
  rw[keys]
  refine List.nodup_append.2 ⟨hnd,?_,?_⟩
  ·refine List.Pairwise.map _ (fun x y (hxy:x≠y) he=>hxy ?_) (List.nodup_range' (s:=0) (n:=new.length))
   simp at he
   omega
  ·intro x hx y hy he
   subst he
   simp only[List.mem_map,List.mem_range'_1]at hy
   obtain⟨n,hn,rfl⟩:=hy
   exact mfresh n (by omega) hx
 have h2m:∀(j:Nat) (i:Id) (o:AB),m[j]?=some i→post[j]?=some o→h2 i=some (o.Ar r):=fun j i o h1 h3=>Vs knd (List.mem_append.2 (.inl (Vt h1 h3)))
 have h2n:∀(k:Nat) (o:AB),new[k]?=some o→h2 (.loc (fresh+k))=some (o.Ar r):=fun k o h1=>Vs knd (List.mem_append.2 (.inr (by simpa using PY (k:=0) h1)))
 have h2o:∀i,i∉m→(∀k,k<new.length→i≠ .loc (fresh+k))→h2 i=σh i:=by
  intro i h1 h3
  refine DU ?_
  rw[keys]
  simp only[List.mem_append,List.mem_map,List.mem_range'_1,not_or,not_exists,not_and]
  exact⟨h1,fun k hk e=>h3 k (by omega) e.symm⟩
 have g2m:∀(j:Nat) i,m[j]?=some i→g2 i=g' (.ext j):=by
  intro j i hj
  have hi:=List.mem_of_getElem? hj
  show (if hi:i∈m then g' (.ext (Classical.choose (pick i hi)))else _)=_
  rw[dif_pos hi]
  have h1:=Classical.choose_spec (pick i hi)
  rw[(List.getElem?_inj (List.getElem?_eq_some_iff.1 h1).1 hnd).1 (h1.trans hj.symm)]
 have g2s:∀i,i∈m→CQ (g i) (g2 i):=by
  intro i hi
  obtain⟨j,hj⟩:=pick i hi
  rw[g2m j i hj]
  have:=CP.ext j
  rw[show gc (.ext j)=g i from by show g (r (.ext j))=_;rw[rin j i hj]]at this
  exact this
 have g2f:∀k,k<32→g2 (.loc (fresh+k))=g' (.loc k):=by
  intro k hk
  show (if hi:Id.loc (fresh+k)∈m then g' (.ext (Classical.choose (pick _ hi)))else _)=_
  rw[dif_neg (mfresh k hk)]
  show (if _ then _ else _)=_
  rw[if_pos (by omega),show fresh+k - fresh=k from by omega]
 have g2o':∀i,i∉m→(∀k,k<32→i≠ .loc (fresh+k))→g2 i=g i:=by
  intro i him hi
  show (if hi:i∈m then g' (.ext (Classical.choose (pick i hi)))else _)=_
  rw[dif_neg him]
  cases i with
  | ext j=>rfl
  | loc n=>
   show (if _ then _ else _)=_
   rw[if_neg]
   rintro⟨h1,h3⟩
   exact hi (n - fresh) (by omega) (by congr 1;omega)
 have g2o:∀i,¬isTu (g i)→(∀k,k<32→i≠ .loc (fresh+k))→g2 i=g i:=by
  intro i ht hi
  by_cases him:i∈m
  ·exact (g2s i him).eq ht
  ·exact g2o' i him hi
 have g2t:∀i,(∀k,k<32→i≠ .loc (fresh+k))→CQ (g i) (g2 i):=by
  intro i hi
  by_cases him:i∈m
  ·exact g2s i him
  ·rw[g2o' i him hi];exact .refl _
 have hg2:∀i,g' i=g2 (r i):=by
  intro i
  cases i with
  | ext j=>
   cases hj:m[j]? with
   | some i=>rw[rin j i hj,g2m j i hj]
   | none=>
    have hu:gc (.ext j)=undef:=by show g (r (.ext j))=_;rw[rout j hj,(free 31 (by omega)).1]
    have h1:=CP.ext j
    rw[hu]at h1
    rw[h1.eq Aw,rout j hj,g2f 31 (by omega),CP.none 31 hnew]
  | loc k=>
   by_cases hk:k<31
   ·rw[rloc k hk,g2f k (by omega)]
   ·rw[rloc7 k (by omega),g2f 31 (by omega),CP.none k (by omega),CP.none 31 hnew]
 have ht2:∀i n sz e,h2 (r i)=some (.tok n sz e)→hc2 i=some (.tok n sz e):=by
  intro i n sz e hi
  have tr:∀o:AB,some (o.Ar r)=some (.tok n sz e)→o= .tok n sz e:=by
   intro o ho
   cases o<;>simp[AB.Ar]at ho
   obtain⟨rfl,rfl,rfl⟩:=ho;rfl
  cases i with
  | ext j=>
   cases hj:m[j]? with
   | some i=>
    rw[rin j i hj]at hi
    have hlt:j<post.length:=by rw[plen,←hlen];exact (List.getElem?_eq_some_iff.1 hj).1
    rw[h2m j i post[j] hj (by simp[hlt])]at hi
    show post[j]?=_
    rw[←tr _ hi];simp[hlt]
   | none=>
    rw[rout j hj,h2o _ (mfresh 31 (by omega)) (fun k hk=>by simp;omega),(free 31 (by omega)).2]at hi
    simp at hi
  | loc k=>
   by_cases hk:k<new.length
   ·rw[rloc k (by omega),h2n k new[k] (by simp[hk])]at hi
    show new[k]?=_
    rw[←tr _ hi];simp[hk]
   ·exfalso
    by_cases hk7:k<31
    ·rw[rloc k hk7,h2o _ (mfresh k (by omega)) (fun k' hk'=>by simp;omega),(free k (by omega)).2]at hi
     simp at hi
    ·rw[rloc7 k (by omega),h2o _ (mfresh 31 (by omega)) (fun k' hk'=>by simp;omega),(free 31 (by omega)).2]at hi
     simp at hi
 have hw2:∀i,isLive (h2 (r i))=true→isLive (hc2 i)=true:=by
  intro i hi
  cases i with
  | ext j=>
   cases hj:m[j]? with
   | some i=>
    rw[rin j i hj]at hi
    have hlt:j<post.length:=by rw[plen,←hlen];exact (List.getElem?_eq_some_iff.1 hj).1
    rw[h2m j i post[j] hj (by simp[hlt])]at hi
    show isLive post[j]?=_
    have:=DS.symm.trans hi
    simpa [hlt] using this
   | none=>
    rw[rout j hj,h2o _ (mfresh 31 (by omega)) (fun k hk=>by simp;omega),(free 31 (by omega)).2]at hi
    simp[isLive]at hi
  | loc k=>
   by_cases hk:k<new.length
   ·rw[rloc k (by omega),h2n k new[k] (by simp[hk])]at hi
    show isLive new[k]?=_
    have:=DS.symm.trans hi
    simpa [hk] using this
   ·exfalso
    by_cases hk7:k<31
    ·rw[rloc k hk7,h2o _ (mfresh k (by omega)) (fun k' hk'=>by simp;omega),(free k (by omega)).2]at hi
     simp[isLive]at hi
    ·rw[rloc7 k (by omega),h2o _ (mfresh 31 (by omega)) (fun k' hk'=>by simp;omega),(free 31 (by omega)).2]at hi
     simp[isLive]at hi
 -- where an object of the new heap comes from
 have cases2:∀(i:Id) (o:AB),h2 i=some o→(∃(j:Nat) (o':AB),m[j]?=some i∧post[j]?=some o'∧o=o'.Ar r)∨(∃(k:Nat) (o':AB),k<31∧i= .loc (fresh+k)∧new[k]?=some o'∧o=o'.Ar r)∨
   (i∉m∧(∀k,k<32→i≠ .loc (fresh+k))∧σh i=some o):=by
  intro i o hi
  by_cases him:i∈m
  ·obtain⟨j,hj⟩:=List.mem_iff_getElem?.1 him
   have hlt:j<post.length:=by rw[plen,←hlen];exact (List.getElem?_eq_some_iff.1 hj).1
   rw[h2m j i post[j] hj (by simp[hlt])]at hi
   exact .inl ⟨j,post[j],hj,by simp[hlt],by simpa using hi.symm⟩
  ·by_cases hn:∃k,k<new.length∧i= .loc (fresh+k)
   ·obtain⟨k,hk,rfl⟩:=hn
    rw[h2n k new[k] (by simp[hk])]at hi
    exact .inr (.inl ⟨k,new[k],by omega,rfl,by simp[hk],by simpa using hi.symm⟩)
   ·rw[h2o i him (fun k hk e=>hn ⟨k,hk,e⟩)]at hi
    refine .inr (.inr ⟨him,fun k hk e=>?_,hi⟩)
    rw[e,(free k hk).2]at hi
    simp at hi
 have hcj:∀(j:Nat) (o':AB),post[j]?=some o'→hc2 (.ext j)=some o':=fun j o' h1=>h1
 have hck:∀(k:Nat) (o':AB),new[k]?=some o'→hc2 (.loc k)=some o':=fun k o' h1=>h1
 have hz2:∀b o,Al (zone g2 h2) C.X b o→Al (zone g' hc2) Xc b o:=by
  rintro b o (⟨i,ob,hi,h1⟩ | h1)
  ·rcases cases2 i ob hi with⟨j,o',hj,hp,rfl⟩ | ⟨k,o',hk7,rfl,hp,rfl⟩ | ⟨h3,h4,h5⟩
   ·refine .inl ⟨.ext j,o',hcj j o' hp,?_⟩
    rw[hg2,rin j i hj]
    exact Co.1 h1
   ·refine .inl ⟨.loc k,o',hck k o' hp,?_⟩
    rw[hg2,rloc k hk7]
    exact Co.1 h1
   ·rw[g2o' i h3 h4]at h1
    exact .inr (.inr ⟨i,ob,h5,h3,h1⟩)
  ·exact .inr (.inl h1)
 have hz2':∀b o u,w'.cell? ⟨b,o,none⟩=some u→¬Al (zone g' hc2) Xc b o→¬Al (zone g2 h2) C.X b o:=fun b o _ _ hn hy=>hn (hz2 b o hy)
 -- the places of what the call leaves: those of its objects, and new ones
 have turned:∀(i:Id) (ob:AB) b o,(i∈m∨∃k,k<32∧i= .loc (fresh+k))→h2 i=some ob→BL (g2 i) ob b o→(∃j o0,j∈m∧σh j=some o0∧BL (g j) o0 b o)∨w.heap.size≤b:=by
  intro i ob b o ti hi h1
  have main:∀i0 o',hc2 i0=some o'→BL (g' i0) o' b o→(∃j o0,j∈m∧σh j=some o0∧BL (g j) o0 b o)∨w.heap.size≤b:=by
   intro i0 o' h3 h4
   rcases CP.within i0 o' b o h3 h4 with⟨i1,o1,h5,h6⟩ | h5
   ·obtain⟨j,rfl,hm,_,hs⟩:=hcs i1 o1 h5
    exact .inl ⟨_,_,List.mem_of_getElem? hm,hs,Co.2 h6⟩
   ·exact .inr h5
  rcases cases2 i ob hi with⟨j,o',hj,hp,rfl⟩ | ⟨k,o',hk7,rfl,hp,rfl⟩ | ⟨h3,h4,_⟩
  ·rw[g2m j i hj]at h1
   exact main (.ext j) o' (hcj j o' hp) (Co.1 h1)
  ·rw[g2f k (by omega)]at h1
   exact main (.loc k) o' (hck k o' hp) (Co.1 h1)
  ·rcases ti with ti | ⟨k,hk,rfl⟩
   ·exact absurd ti h3
   ·exact absurd rfl (h4 k hk)
 have E:Gp w (Al (zone g σh) C.X) g σh w' (Al (zone g2 h2) C.X) g2 h2:=by
  have nofree:∀i,g i≠undef→∀k,k<32→i≠ .loc (fresh+k):=by
   rintro i hi k hk rfl
   exact hi (free k hk).1
  have owfree:∀i,isTu (g i)→∀k,k<32→i≠ .loc (fresh+k):=fun i hi=>nofree i (fun e=>Aw (e▸hi))
  have slfree:∀i,HM (g i)→∀k,k<32→i≠ .loc (fresh+k):=fun i hi=>nofree i (fun e=>by rw[e]at hi;exact hi)
  refine⟨fun b o u hu hn=>⟨CP.frame.cell b o u hu (fun hy=>hn (.inl (hzc b o hy))),?_⟩,fun i b hb=>?_,fun i q hq=>?_,fun i hi=>?_,fun i n sz e hi hn=>?_,fun i hi=>?_,fun i hi hn=>?_⟩
  ·rintro (⟨i,ob,hi,h1⟩ | h1)
   ·by_cases ti:i∈m∨∃k,k<32∧i= .loc (fresh+k)
    ·rcases turned i ob b o ti hi h1 with⟨j,o0,_,h3,h4⟩ | h3
     ·exact hn (.inl ⟨j,o0,h3,h4⟩)
     ·have:=World.block_lt_of_cell? w ⟨b,o,none⟩ hu
      simp at this
      omega
    ·simp only[not_or,not_exists,not_and]at ti
     rw[g2o' i ti.1 ti.2]at h1
     rw[h2o i ti.1 (fun k hk=>ti.2 k (by omega))]at hi
     exact hn (.inl ⟨i,ob,hi,h1⟩)
   ·exact hn (.inr h1)
  ·exact g2o i (fun ht=>Sm (hb▸ht)) (nofree i (by rw[hb];simp[undef]))
  ·exact g2o i (fun ht=>Sn (hq▸ht)) (nofree i (by rw[hq];simp[undef]))
  ·rw[g2o i (Cb hi) (slfree i hi)]
   exact hi
  ·have hgi:=g2o i (Cb hi) (slfree i hi)
   rcases cases2 i _ hn with⟨j,o',hj,hp,ho⟩ | ⟨k,o',hk7,rfl,hp,ho⟩ | ⟨h3,h4,h5⟩
   ·obtain⟨o0,h6,h7⟩:=Dm hk hp
    have:=hpre j i o0 hj h6
    cases o'<;>simp[AB.Ar]at ho
    obtain⟨rfl,rfl,rfl⟩:=ho
    cases o0<;>simp[sameKind]at h7
    obtain⟨rfl,rfl,rfl⟩:=h7
    exact⟨_,Nat.le_refl _,this,fun _=>hgi⟩
   ·exact absurd rfl (slfree _ hi k (by omega))
   ·exact⟨n,Nat.le_refl _,h5,fun _=>hgi⟩
  ·exact (g2t i (owfree i hi)).isTu hi
  ·refine⟨?_,(g2t i (owfree i hi)).gval⟩
   cases ho:h2 i with
   | none=>rw[ho]at hn;cases hn
   | some ob=>
    rw[ho]at hn
    rcases cases2 i ob ho with⟨j,o',hj,hp,rfl⟩ | ⟨k,o',hk7,rfl,hp,rfl⟩ | ⟨h3,h4,h5⟩
    ·obtain⟨o0,h6,h7⟩:=Dm hk hp
     rw[hpre j i o0 hj h6]
     exact DS.trans (Jo h7 (DS.symm.trans hn))
    ·exact absurd rfl (owfree _ hi k (by omega))
    ·rw[h5];exact hn
 have R2:AR C (fun n=>F n∧¬(fresh≤n∧n<fresh+32)) σs h2 g2 a w':=by
  refine R.step (fun i=>i∈m∨∃k,k<32∧i= .loc (fresh+k)) E (CP.frame.weaken hzc) ?_ ?_ ?_ ?_ ?_ ?_ ?_
  ·intro i hi
   simp only[not_or,not_exists,not_and]at hi
   exact⟨h2o i hi.1 (fun k hk=>hi.2 k (by omega)),g2o' i hi.1 hi.2⟩
  ·intro i o b hi ho hb
   simp only[not_or,not_exists,not_and]at hi
   refine CP.frame.block b ((R.heap.objs i o ho).lt hb) ?_
   rintro o' ⟨i',ob,hi',h1⟩
   obtain⟨j,rfl,hm,_,hs⟩:=hcs i' ob hi'
   have e:=R.heap.sep _ _ _ _ b ho hs hb (DA.2 h1.F7)
   exact hi.1 (e▸List.mem_of_getElem? hm)
  ·intro i o hi ho
   rcases cases2 i o ho with⟨j,o',hj,hp,rfl⟩ | ⟨k,o',hk7,rfl,hp,rfl⟩ | ⟨h3,h4,_⟩
   ·have:=CP.heap.objs (.ext j) o' (hcj j o' hp)
    rw[hg2,rin j i hj]at this
    exact BH.push (r:=r) hz2' hg2 ht2 hw2 this
   ·have:=CP.heap.objs (.loc k) o' (hck k o' hp)
    rw[hg2,rloc k hk7]at this
    exact BH.push (r:=r) hz2' hg2 ht2 hw2 this
   ·rcases hi with hi | ⟨k,hk,rfl⟩
    ·exact absurd hi h3
    ·exact absurd rfl (h4 k hk)
  ·intro i ob b o ti hi h1
   rcases turned i ob b o ti hi h1 with⟨j,o0,h2,h3,h4⟩ | h3
   ·exact .inl ⟨j,o0,.inl h2,h3,h4⟩
   ·exact .inr h3
  ·intro i i' oi oi' b hi hi' ho ho' hb hb'
   have pre1:∀(i:Id) (o:AB),(i∈m∨∃k,k<32∧i= .loc (fresh+k))→h2 i=some o→∃i0 o0,hc2 i0=some o0∧r i0=i∧g' i0=g2 i∧o=o0.Ar r:=by
    intro i o hi ho
    rcases cases2 i o ho with⟨j,o',hj,hp,rfl⟩ | ⟨k,o',hk7,rfl,hp,rfl⟩ | ⟨h3,h4,_⟩
    ·exact⟨.ext j,o',hcj j o' hp,rin j i hj,by rw[hg2,rin j i hj],rfl⟩
    ·exact⟨.loc k,o',hck k o' hp,rloc k hk7,by rw[hg2,rloc k hk7],rfl⟩
    ·rcases hi with hi | ⟨k,hk,rfl⟩
     ·exact absurd hi h3
     ·exact absurd rfl (h4 k hk)
   obtain⟨i0,o0,q1,q2,q3,q4⟩:=pre1 i oi hi ho
   obtain⟨i1,o1,p1,p2,p3,p4⟩:=pre1 i' oi' hi' ho'
   rw[←q3,q4]at hb
   rw[←p3,p4]at hb'
   have:=CP.heap.sep i0 i1 o0 o1 b q1 p1 (DA.1 hb) (DA.1 hb')
   rw[←q2,←p2,this]
  ·rintro j (hj | ⟨k,hk,e⟩)
   ·exact g2s _ hj
   ·simp at e
  ·rintro n ⟨hn,hn2⟩
   obtain⟨h3,h4⟩:=R.free n hn
   have hne:∀k,k<32→Id.loc n≠ .loc (fresh+k):=fun k hk e=>hn2 (by simp at e;omega)
   have hnm:Id.loc n∉m:=fun hm=>mlive _ hm h4
   exact⟨(g2o' _ hnm hne).trans h3,(h2o _ hnm (fun k hk=>hne k (by omega))).trans h4⟩
 exact⟨g2,E.map,R2.put hd (An.push (r:=r) hz2' hg2 ht2 hw2 CP.res)⟩
end Go.AM
namespace Go.AM
open Go Go.RowKit
def Fo (w:World) (Z:Ad) (g:AL) (h:AE) (cs:List CV) (vs:Array Value):Prop:=
 vs.size=cs.length∧∀(j:Nat) c u,cs[j]?=some c→vs[j]?=some u→Au w Z g h c u
theorem PZ (off:Nat):∀(l:List Value) (n:Nat) (cells:Array Value),
  ((l.zipIdx n).foldl (fun cs x=>cs.setIfInBounds (off+x.2) x.1) cells).size=cells.size∧
  ∀k,k<cells.size→((l.zipIdx n).foldl (fun cs x=>cs.setIfInBounds (off+x.2) x.1) cells)[k]?=if off+n≤k∧k<off+n+l.length then l[k - (off+n)]? else cells[k]?
 | [],n,cells=>⟨rfl,fun k hk=>by rw[if_neg (by simp only[List.length_nil];omega)];rfl⟩
 | v::l,n,cells=>by
  obtain⟨h1,h2⟩:=PZ off l (n+1) (cells.setIfInBounds (off+n) v)
  refine⟨by simpa using h1,fun k hk=>?_⟩
  have:=h2 k (by simpa using hk)
  simp only[List.zipIdx_cons,List.foldl_cons]
  rw[this]
  by_cases he:k=off+n
  ·subst he
   rw[if_neg (by omega),if_pos (by simp)]
   simp[hk]
  ·by_cases hr:off+n≤k∧k<off+n+(v::l).length
   ·rw[if_pos hr,if_pos (by simp at hr;omega)]
    obtain⟨d,hd⟩:∃d,k=off+n+1+d:=⟨k - (off+n+1),by omega⟩
    rw[show k - (off+n)=d+1 from by omega,show k - (off+(n+1))=d from by omega]
    rfl
   ·rw[if_neg hr,if_neg (by simp at hr;omega)]
    rw[Array.getElem?_setIfInBounds_ne (by omega)]
theorem Ma {w:World}{Z:Ad}{g:AL}{h:AE}{cs ys:List CV}{vs us:Array Value}{off:Nat}(hc:Fo w Z g h cs vs) (hy:Fo w Z g h ys us) (hb:off+ys.length≤cs.length):
  Fo w Z g h (cs.take off++ys++cs.drop (off+ys.length)) (us.zipIdx.foldl (fun cs (c,j)=>cs.setIfInBounds (off+j) c) vs):=by
 have e:us.zipIdx.foldl (fun cs (c,j)=>cs.setIfInBounds (off+j) c) vs=(us.toList.zipIdx 0).foldl (fun cs x=>cs.setIfInBounds (off+x.2) x.1) vs:=by
  rw[←Array.foldl_toList,Array.toList_zipIdx]
 rw[e]
 obtain⟨h1,h2⟩:=PZ off us.toList 0 vs
 refine⟨by rw[h1,hc.1];simp;omega,fun j c u hj hu=>?_⟩
 have hlt:j<vs.size:=by rw[←h1];exact (Array.getElem?_eq_some_iff.1 hu).1
 rw[h2 j hlt]at hu
 have hl:=hy.1
 by_cases ha:j<off
 ·rw[if_neg (by omega)]at hu
  rw[List.append_assoc,List.getElem?_append_left (by simp;omega),List.getElem?_take_of_lt ha]at hj
  exact hc.2 j c u hj hu
 ·by_cases hb':j<off+ys.length
  ·rw[if_pos (by simp;omega)]at hu
   rw[List.getElem?_append_left (by simp;omega),List.getElem?_append_right (by simp;omega)]at hj
   have e1:j - (cs.take off).length=j - (off+0):=by simp;omega
   rw[e1]at hj
   exact hy.2 _ c u hj (by simpa using hu)
  ·rw[if_neg (by simp;omega)]at hu
   rw[List.getElem?_append_right (by simp;omega),List.getElem?_drop]at hj
   have e1:off+ys.length+(j - (cs.take off++ys).length)=j:=by simp;omega
   rw[e1]at hj
   exact hc.2 j c u hj hu
theorem So {α β:Type}{f:α→Option β}:∀{l:List α}{ps:List β},l.mapM f=some ps→∀(i:Nat) a,l[i]?=some a→f a=ps[i]?
 | [],ps,_,i,a,ha=>by simp at ha
 | x::l,ps,h,i,a,ha=>by
  simp only[List.mapM_cons,Option.bind_eq_bind,Option.pure_def]at h
  cases hx:f x with
  | none=>simp[hx]at h
  | some y=>
   cases hl:l.mapM f with
   | none=>simp[hx,hl]at h
   | some ys=>
    simp[hx,hl]at h
    subst h
    match i with
    | 0=>simp at ha;subst ha;simpa using hx
    | i+1=>simp at ha;simpa using So hl i a ha
theorem Sp {P:Program}{ti:Types}(hti:Ao P ti) {s:AN}{fs:List Field}{places:List (Nat×Nat)}(hp:fs.mapM (fun f=>(P.info? f.type).map fun i=>(f.offset,i.size))=some places) {k:List CV→Prop}:
  ∀(L:List (Nat×Operand)) (cs:List CV),PN ti s fs cs L k→∃cs',k cs'∧∀(w:World) (Z:Ad) (g:AL) (h:AE) (ev:Operand→Value) (vs:Array Value),
   (∀t i p,(i,p)∈L→An w Z g h (AP ti s t p) (ev p))→Fo w Z g h cs vs→
   ∃vs',Instr.fill (places.toArray[·]?) vs (L.map fun x=>(x.1,ev x.2))=some vs'∧Fo w Z g h cs' vs'
 | [],cs,hk=>⟨cs,hk,fun w Z g h ev vs _ hc=>⟨vs,rfl,hc⟩⟩
 | (i,x)::L,cs,hk=>by
  unfold PN at hk
  split at hk
  ·rename_i fd hfd
   obtain⟨j,hj,hk⟩:=AF.1 hk
   obtain⟨y,hy,hk⟩:=CS.1 hk
   obtain⟨hl,hk⟩:=AA.1 hk
   obtain⟨hb,hk⟩:=AA.1 hk
   have hl:=Nat.eq_of_beq_eq_true hl
   have hb:=Nat.le_of_ble_eq_true hb
   obtain⟨cs',h1,h2⟩:=Sp hti hp L _ hk
   refine⟨cs',h1,fun w Z g h ev vs hev hc=>?_⟩
   have hr:=hev fd.type i x (by simp)
   rw[hy]at hr
   obtain⟨hs1,hs2⟩:=Ag.cells hr
   obtain⟨_,ii,hi1,hi2,_⟩:=hti _ _ hj
   have hpl:places[i]?=some (fd.offset,j.size):=by
    rw[←So hp i fd hfd,hi1]
    simp[hi2]
   rw[←hl]at h2
   obtain⟨vs',h3,h4⟩:=h2 w Z g h ev _ (fun t i' p hp'=>hev t i' p (List.mem_cons_of_mem _ hp')) (Ma (off:=fd.offset) hc ⟨hs1,hs2⟩ (by omega))
   refine⟨vs',?_,h4⟩
   have e:places.toArray[i]?=some (fd.offset,j.size):=by simpa using hpl
   simp only[List.map_cons,Instr.fill,e]
   rw[if_neg (by rw[hs1,hc.1];simp;omega)]
   exact h3
  ·exact hk.elim
theorem Sq {ti:Types}{s:AN}{e:TypeId}{sz:Nat}{k:List CV→Prop}:
  ∀(L:List (Nat×Operand)) (cs:List CV),PO ti s e sz cs L k→∃cs',k cs'∧∀(w:World) (Z:Ad) (g:AL) (h:AE) (ev:Operand→Value) (vs:Array Value),
   (∀t i p,(i,p)∈L→An w Z g h (AP ti s t p) (ev p))→Fo w Z g h cs vs→
   ∃vs',Instr.fill (fun i=>some (i*sz,sz)) vs (L.map fun x=>(x.1,ev x.2))=some vs'∧Fo w Z g h cs' vs'
 | [],cs,hk=>⟨cs,hk,fun w Z g h ev vs _ hc=>⟨vs,rfl,hc⟩⟩
 | (i,x)::L,cs,hk=>by
  unfold PO at hk
  obtain⟨y,hy,hk⟩:=CS.1 hk
  obtain⟨hl,hk⟩:=AA.1 hk
  obtain⟨hb,hk⟩:=AA.1 hk
  have hl:=Nat.eq_of_beq_eq_true hl
  have hb:=Nat.le_of_ble_eq_true hb
  obtain⟨cs',h1,h2⟩:=Sq L _ hk
  refine⟨cs',h1,fun w Z g h ev vs hev hc=>?_⟩
  have hr:=hev e i x (by simp)
  rw[hy]at hr
  obtain⟨hs1,hs2⟩:=Ag.cells hr
  subst hl
  obtain⟨vs',h3,h4⟩:=h2 w Z g h ev _ (fun t i' p hp'=>hev t i' p (List.mem_cons_of_mem _ hp')) (Ma (off:=i*y.cells.length) hc ⟨hs1,hs2⟩ (by omega))
  refine⟨vs',?_,h4⟩
  simp only[List.map_cons,Instr.fill]
  rw[if_neg (by rw[hs1,hc.1];simp;omega)]
  exact h3
theorem Sr {P:Program}{ti:Types}(hti:Ao P ti):∀(fs:List Field),Sc ti fs=true→∃places,fs.mapM (fun f=>(P.info? f.type).map fun i=>(f.offset,i.size))=some places
 | [],_=>⟨[],rfl⟩
 | f::fs,h=>by
  unfold Sc at h
  split at h
  ·rename_i x hx
   obtain⟨l,hl⟩:=Sr hti fs h
   obtain⟨_,ii,hi1,_⟩:=hti _ _ hx
   exact⟨(f.offset,ii.size)::l,by simp[List.mapM_cons,hi1,hl]⟩
  ·simp at h
section
variable {C:Cx}{ti:Types}{o:Oper}{fresh:Nat}{s:AN}{h:AE}{k:Out→Prop}
theorem YH (hti:Ao C.P ti) (t:TypeId) (parts:Array (Nat×Operand)) (ho:o.op= .build t parts) (hk:HQ ti s t parts.toList k):∃out,k out∧A0 C o fresh s h out:=by
 unfold HQ at hk
 obtain⟨q,hq,hk⟩:=AF.1 hk
 split at hk
 ·rename_i fs hd
  obtain⟨ha,hk⟩:=AA.1 hk
  obtain⟨places,hp⟩:=Sr hti _ ha
  obtain⟨cs',hk,hx⟩:=Sp hti hp _ _ hk
  refine⟨_,hk,AG fun F σs σh g a w R hs _=>?_⟩
  obtain⟨hu,ii,h1,h2,h3,h4,h5,h6,h7⟩:=hti t q hq
  obtain⟨vs',hf,hr⟩:=hx w (Al (zone g σh) C.X) g σh a.eval q.zero.cells (fun t' i p hp'=>AI ti t' p R (s:=s) (fun k hk=>hs k (by
   subst hk
   simp only[ho,Op.operands]
   simp
   exact⟨i,by simpa using hp'⟩))) ⟨by rw[h5,h6],fun j c u hc hu=>Dk (h7 j c u hc hu)⟩
  refine⟨.agg vs',?_,(Ag.AZ hr.1 hr.2).1 rfl⟩
  have hb:C.P.built t (parts.map fun (i,x)=>(i,a.eval x)).toList=some vs':=by
   unfold Program.built
   rw[h1,hu,hd]
   simp only[h4,hp]
   simpa using hf
  have:=run_build w t _ vs' hb
  simp[execOp,ho,this]
 ·rename_i n e hd
  obtain⟨j,hj,hk⟩:=AF.1 hk
  obtain⟨cs',hk,hx⟩:=Sq _ _ hk
  refine⟨_,hk,AG fun F σs σh g a w R hs _=>?_⟩
  obtain⟨hu,ii,h1,h2,h3,h4,h5,h6,h7⟩:=hti t q hq
  obtain⟨vs',hf,hr⟩:=hx w (Al (zone g σh) C.X) g σh a.eval q.zero.cells (fun t' i p hp'=>AI ti t' p R (s:=s) (fun k hk=>hs k (by
   subst hk
   simp only[ho,Op.operands]
   simp
   exact⟨i,by simpa using hp'⟩))) ⟨by rw[h5,h6],fun j c u hc hu=>Dk (h7 j c u hc hu)⟩
  refine⟨.agg vs',?_,(Ag.AZ hr.1 hr.2).1 rfl⟩
  rw[hd]at hu
  have e2:=Dl hti hj w
  have hz:(zeroValue t).run C.P w= .ok q.zero w:=by simp[zeroValue,typeInfo,h1,h4]
  have hu':(underlying t).run C.P w= .ok (.array n e) w:=by simp[underlying,hu]
  have:(Instr.build t (parts.map fun (i,x)=>(i,a.eval x))).run C.P w= .ok (.agg vs') w:=by
   unfold Instr.build
   simp only[Sem.run_bind,hz,hu',e2,Result.andThen,Array.toList_map]
   rw[hf]
   rfl
  simp[execOp,ho,this]
 ·exact hk.elim
end
end Go.AM
namespace Go.AM
open Go Go.RowKit
section
variable {C:Cx}{ti:Types}{o:Oper}{fresh:Nat}{s:AN}{h:AE}{k:Out→Prop}
theorem Ss:∀{xs:List V1}{i:Nat}{y:V1},Wc xs i=some y→xs[i]?=some y
 | [],_,_,h=>by simp[Wc]at h
 | x::r,0,y,h=>by simpa [Wc] using h
 | x::r,i+1,y,h=>by simpa using Ss (xs:=r) (i:=i) h
theorem Ub (x:Operand) (i:Nat) (ho:o.op= .extract x i) (hk:FF (AP ti s 0 x) i k):∃out,k out∧A0 C o fresh s h out:=by
 unfold FF at hk
 split at hk
 ·rename_i xs hop
  split at hk
  ·rename_i y hy
   refine⟨_,hk,AG fun F σs σh g a w R hs _=>?_⟩
   have hx:=AI ti 0 x R (s:=s) (fun t ht=>hs t (by subst ht;simp[ho,Op.operands]))
   rw[hop]at hx
   obtain⟨vs,hv,hsz,hr⟩:=hx
   have hxy:=Ss hy
   have hlt:i<vs.size:=by rw[hsz];exact (List.getElem?_eq_some_iff.1 hxy).1
   refine⟨vs[i],?_,hr i y vs[i] hxy (by simp[hlt])⟩
   simp[execOp,ho,Instr.extract,hv,hlt]
  ·exact hk.elim
 ·exact hk.elim
theorem Uc (hti:Ao C.P ti) (src dst:TypeId) (x:Operand) (ho:o.op= .convert src dst x) (hk:FG ti src dst (AP ti s src x) k):∃out,k out∧A0 C o fresh s h out:=by
 unfold FG at hk
 obtain⟨a1,h1,hk⟩:=AF.1 hk
 obtain⟨b1,h2,hk⟩:=AF.1 hk
 split at hk
 ·rename_i q1 q d1 d2
  obtain⟨q',n,hx0,z,hz,hk⟩:=B6.1 hk
  refine⟨_,hk,AG fun F σs σh g a w R hs _=>?_⟩
  have hx:=AI ti src x R (s:=s) (fun t ht=>hs t (by subst ht;simp[ho,Op.operands]))
  rw[hx0]at hx
  have hx:=ET hx
  refine⟨.int q z,?_,.int _ _⟩
  have e1:=B2 hti h1 w
  have e2:=B2 hti h2 w
  rw[d1]at e1
  rw[d2]at e2
  simp[execOp,ho,convert,e1,e2,hx,Conv.intToInt,hz]
 ·exact hk.elim
theorem Gt {w:World}{Z:Ad}{g:AL}{h:AE}{y:V1}{v:Value}(hy:NB y=true) (r:Ag w Z g h y v):∃vs,v= .agg vs:=by
 cases y with
 | d x=>
  cases x with
  | agg cs=>cases (show AX w Z (.agg cs) v from r)with | agg _ vs=>exact⟨vs,rfl⟩
  | _=>simp[NB,D.isAgg]at hy
 | c x=>simp[NB]at hy
 | agg cs=>obtain⟨vs,hv,_⟩:=r;exact⟨vs,hv⟩
theorem Wi (hti:Ao C.P ti) {t:TypeId}{i:TI}(hi:ti t=some i) (w:World):(isAgg t).run C.P w= .ok (AU i.desc) w:=by
 have:=B2 hti hi w
 unfold isAgg
 cases hd:i.desc<;>simp[hd]at this<;>simp[this,AU]
theorem NL (hti:Ao C.P ti) (h1:BB ti) {t:TypeId}{i:TI}(hi:ti t=some i) {w:World}{Z:Ad}{g:AL}{h:AE}{cs:List CV}{vs:Array Value}{off:Nat}(hs:vs.size=cs.length)
  (hr:∀(j:Nat) c u,cs[j]?=some c→vs[j]?=some u→Au w Z g h c u) (hb:off+i.size≤cs.length):
  ∃u,(part t vs off).run C.P w= .ok u w∧An w Z g h (.v (V1.AZ (AU i.desc) ((cs.drop off).take i.size))) u:=by
 have e1:=Wi hti hi w
 have e2:=Dl hti hi w
 have hsz:(vs.extract off (off+i.size)).size=((cs.drop off).take i.size).length:=by simp;omega
 have hrel:∀(j:Nat) c u,((cs.drop off).take i.size)[j]?=some c→(vs.extract off (off+i.size))[j]?=some u→Au w Z g h c u:=by
  intro j c u hc hu
  rw[List.getElem?_take]at hc
  split at hc
  ·rename_i hj
   rw[List.getElem?_drop]at hc
   refine hr (off+j) c u hc ?_
   rw[Array.getElem?_extract]at hu
   split at hu
   ·exact hu
   ·cases hu
  ·cases hc
 cases hrow:AU i.desc with
 | true=>
  rw[hrow]at e1
  refine⟨.agg (vs.extract off (off+i.size)),by simp[part,e1,e2],(Ag.AZ hsz hrel).1 rfl⟩
 | false=>
  rw[hrow]at e1
  have hone:=h1 t i hi hrow
  have hlt:off<vs.size:=by omega
  refine⟨vs[off],by simp[part,e1,hlt],(Ag.AZ hsz hrel).2 rfl _ ?_⟩
  apply Array.ext
  ·simp;omega
  ·intro j h2 h3
   simp at h3
   subst h3
   simp
theorem Wj (hti:Ao C.P ti) (h1:BB ti) (t:TypeId) (x:Operand) (f:Nat) (ho:o.op= .field t x f) (hk:GS ti t (AP ti s t x) f k):∃out,k out∧A0 C o fresh s h out:=by
 unfold GS at hk
 obtain⟨i,hi,hk⟩:=AF.1 hk
 split at hk
 ·rename_i fs hd
  split at hk
  ·rename_i fd hfd
   obtain⟨j,hj,hk⟩:=AF.1 hk
   obtain⟨y,hy,hk⟩:=CS.1 hk
   obtain⟨hag,hk⟩:=AA.1 hk
   obtain⟨hb,hk⟩:=AA.1 hk
   have hb:=Nat.le_of_ble_eq_true hb
   refine⟨_,hk,AG fun F σs σh g a w R hs _=>?_⟩
   have hx:=AI ti t x R (s:=s) (fun t ht=>hs t (by subst ht;simp[ho,Op.operands]))
   rw[hy]at hx
   obtain⟨vs,hv⟩:=Gt hag hx
   obtain⟨c1,c2⟩:=Ag.cells hx
   have e1:=B2 hti hi w
   rw[hd]at e1
   rw[hv]at c1 c2
   obtain⟨u,hu,hr⟩:=NL hti h1 hj (w:=w) (vs:=vs) (off:=fd.offset) (by simpa [Value.cells] using c1) (fun j c u h1 h2=>c2 j c u h1 (by simpa [Value.cells] using h2)) hb
   refine⟨u,?_,hr⟩
   simp[execOp,ho,Instr.field,e1,hfd,hv,asAgg,hu]
  ·exact hk.elim
 ·exact hk.elim
theorem EX {d:Int}{x:Option Operand}{k:Int→Prop}(hk:Iq ti s d x k):∃n,k n∧((x=none∧n=d)∨∃y q,x=some y∧AP ti s 3 y= .v (.d (.int q n))):=by
 unfold Iq at hk
 split at hk
 ·exact⟨d,hk,.inl ⟨rfl,rfl⟩⟩
 ·rename_i y
  obtain⟨q,n,h1,hk⟩:=B6.1 hk
  exact⟨n,hk,.inr ⟨y,q,rfl,h1⟩⟩
theorem Bv {P:Program}{w:World}{q:IntKind}{n:Int}{y:Nat}{code:BoundsCode}(h0:0≤n) (h1:n≤y):(Instr.sliceBound (.int q n) y code).run P w= .ok n.toNat w:=by
 simp[Instr.sliceBound,asIntOf,h0,h1]
theorem gM (hti:Ao C.P ti) (t:TypeId) (x:Operand) (lo hi mx:Option Operand) (ho:o.op= .slice t x lo hi mx) {i j:TI}{e:TypeId}(hi':ti t=some i) (hd:i.desc= .slice e) (hj:ti e=some j) {id:Id}{n:Nat}(hx:AP ti s t x= .v (.c (.sl id n))) (hk:Qa ti s (AU j.desc) j.size n lo hi mx k):∃out,k out∧A0 C o fresh s h out:=by
 unfold Qa at hk
 split at hk
 ·rename_i u
  obtain⟨q,z,hz,hk⟩:=B6.1 hk
  obtain⟨hn,hz0,hk2⟩:=AA.1 hk
  subst hz0
  refine⟨_,hk2,AG fun F σs σh g a w R hs _=>?_⟩
  have h1:=AI ti t x R (s:=s) (fun t ht=>hs t (by subst ht;simp[ho,Op.operands]))
  rw[hx]at h1
  obtain⟨⟨b,hb⟩,hv⟩:=h1
  rw[hb]at hv
  have h2:=AI ti 3 u R (s:=s) (fun t ht=>hs t (by subst ht;simp[ho,Op.operands]))
  rw[hz]at h2
  have h2:=ET h2
  have e1:=B2 hti hi' w
  rw[hd]at e1
  have e4:=Dl hti hj w
  have e6:=Bv (P:=C.P) (w:=w) (q:=q) (n:=0) (y:=n) (code:=.sliceAcap) (by omega) (by omega)
  have hb2:(Instr.sliceBounds true n n none (some (.int q 0)) none).run C.P w= .ok (0,0,n) w:=by simp[Instr.sliceBounds,e6]
  refine⟨.slice (if n=0 then some ⟨b,0,none⟩else (some (⟨b,0,none⟩:Addr)).map (·.add (0*j.size))) 0 n,?_,?_⟩
  ·simp[execOp,ho,Instr.sliceAt,Instr.slice,e1,hv,gH,h2,hb2,e4]
  ·exact AX.list _ _ [] _ n b 0 (fun _ _=>undef) (by simp) (Nat.le_trans (Nat.le_of_ble_eq_true hn) (by decide)) (by simp) (by simp) (by simp) (by simp)
 ·exact hk.elim
theorem Wk (hti:Ao C.P ti) (t:TypeId) (x:Operand) (lo hi mx:Option Operand) (ho:o.op= .slice t x lo hi mx) (hk:HS C.M ti s t (AP ti s t x) lo hi mx k):∃out,k out∧A0 C o fresh s h out:=by
 unfold HS at hk
 obtain⟨i,hi',hk⟩:=AF.1 hk
 have bnd:∀{F:Nat→Prop} {σs:AN} {σh:AE} {g:AL} {a:Act} {w:World} (R:AR C F σs σh g a w),(∀t,Operand.tmp t∈o.op.operands.toList→σs t=s t)→
   ∀y q n,(lo=some y∨hi=some y∨mx=some y)→AP ti s 3 y= .v (.d (.int q n))→a.eval y= .int q n:=by
  intro F σs σh g a w R hs y q n hy hop
  have hx:=AI ti 3 y R (s:=s) (fun t ht=>hs t (by subst ht;rcases hy with h | h | h<;>simp[ho,Op.operands,h]))
  rw[hop]at hx
  exact ET hx
 split at hk
 ·rename_i hd
  split at hk
  ·rename_i b hop
   obtain⟨l,hk,hl⟩:=EX hk
   obtain⟨u,hk,hu⟩:=EX hk
   split at hk
   ·rename_i hmx
    obtain⟨r,⟨h0,h1,h2⟩,hr,hk⟩:=hk
    refine⟨_,hk,AG fun F σs σh g a w R hs _=>?_⟩
    have hx:=AI ti t x R (s:=s) (fun t ht=>hs t (by subst ht;simp[ho,Op.operands]))
    rw[hop]at hx
    have hx:=Sd hx
    rw[C.M.szI_eq]at h2
    refine⟨.string r,?_,.str _⟩
    have e1:=B2 hti hi' w
    rw[hd]at e1
    have hb:(Instr.sliceBounds false b.size b.size (lo.map a.eval) (hi.map a.eval) none).run C.P w= .ok (l.toNat,u.toNat,b.size) w:=by
     rcases hu with⟨rfl,rfl⟩ | ⟨y,q,rfl,hy⟩
     ·rw[C.M.szI_eq]at h1 ⊢
      rcases hl with⟨rfl,rfl⟩ | ⟨z,q',rfl,hz⟩
      ·simp[Instr.sliceBounds]
      ·simp[Instr.sliceBounds,bnd R hs z q' l (.inl rfl) hz,Bv (P:=C.P) (w:=w) h0 h1]
     ·have hy':=bnd R hs y q u (.inr (.inl rfl)) hy
      have e2:=Bv (P:=C.P) (w:=w) (q:=q) (n:=u) (y:=b.size) (code:=.sliceAlen) (by omega) (by omega)
      rcases hl with⟨rfl,rfl⟩ | ⟨z,q',rfl,hz⟩
      ·simp[Instr.sliceBounds,hy',e2]
      ·have e3:=Bv (P:=C.P) (w:=w) (q:=q') (n:=l) (y:=u.toNat) (code:=.sliceB) h0 (by omega)
       simp[Instr.sliceBounds,hy',e2,bnd R hs z q' l (.inl rfl) hz,e3]
    simp[execOp,ho,Instr.sliceAt,Instr.slice,e1,hx,hmx,hb,hr]
   ·exact hk.elim
  ·exact hk.elim
 ·rename_i e hd
  obtain⟨j,hj,hk⟩:=AF.1 hk
  split at hk
  ·rename_i hx;exact gM hti t x lo hi mx ho hi' hd hj hx hk
  obtain⟨ag,sz,rows,hrel,hk⟩:=D4 hk
  obtain⟨hag,hk⟩:=AA.1 hk
  obtain⟨hsz,hk⟩:=AA.1 hk
  have hsz:=Nat.eq_of_beq_eq_true hsz
  obtain⟨l,hk,hl⟩:=EX hk
  obtain⟨u,hk,hu⟩:=EX hk
  have main:∃(out:List D) (m:Option Int),(m=none∧mx=none∨∃y q z,mx=some y∧hi=some z∧AP ti s 3 y= .v (.d (.int q u))∧m=some u)∧(0≤l∧l≤u∧u≤C.M.lenI rows)∧(rows.take u.toNat).drop l.toNat=out∧
    k ⟨match m with | none=>.v (.d (.list ag sz out)) | some _=>.v (.c (.tl ag sz out)),[],[]⟩:=by
   cases mx with
   | none=>
    obtain⟨out,h0,h1,hk⟩:=hk
    exact⟨out,none,.inl ⟨rfl,rfl⟩,h0,h1,hk⟩
   | some y=>
    cases hi with
    | none=>exact hk.elim
    | some z=>
     obtain⟨q,v,hy,out,⟨h0,h1,h2,rfl⟩,h3,hk⟩:=B6.1 hk
     exact⟨out,some v,.inr ⟨y,q,z,rfl,rfl,hy,rfl⟩,⟨h0,h1,h2⟩,h3,hk⟩
  obtain⟨out,m,hm,⟨h0,h1,h2⟩,hout,hk⟩:=main
  refine⟨_,hk,AG fun F σs σh g a w R hs _=>?_⟩
  have hx:=hrel (AI ti t x R (s:=s) (fun t ht=>hs t (by subst ht;simp[ho,Op.operands])))
  rw[C.M.lenI_eq]at h2
  have bhi:hi=none→u=rows.length:=by
   intro h
   rcases hu with⟨_,rfl⟩ | ⟨y,q,he,_⟩
   ·exact C.M.lenI_eq rows
   ·rw[h]at he;cases he
  generalize hv:a.eval x=v at hx
  cases hx with
  | list _ _ _ A cap b off U hcap hmax hfit ha hc hr=>
   have e1:=B2 hti hi' w
   rw[hd]at e1
   have e4:=Dl hti hj w
   have lists:∀cap',u.toNat - l.toNat≤cap'→cap'≤maxLen→∀A',(l.toNat<u.toNat→A'=A.map (·.add (l.toNat*j.size)))→
     AX w (Al (zone g σh) C.X) (.list ag sz out) (.slice A' (u.toNat - l.toNat) cap'):=by
    intro cap' hc1 hc2 A' hA'
    have hlen:out.length=u.toNat - l.toNat:=by rw[←hout];simp;omega
    have hget:∀(i:Nat) r,out[i]?=some r→rows[l.toNat+i]?=some r∧i<u.toNat - l.toNat:=by
     intro i r hr
     have hlt:=(List.getElem?_eq_some_iff.1 hr).1
     rw[←hout,List.getElem?_drop,List.getElem?_take]at hr
     split at hr
     ·exact⟨hr,by omega⟩
     ·simp at hr
    have hmem:∀r∈out,r∈rows:=by
     intro r hr
     rw[←hout]at hr
     exact List.mem_of_mem_take (List.mem_of_mem_drop hr)
    have:=AX.list (w:=w) (Z:=Al (zone g σh) C.X) ag sz out A' cap' b (off+l.toNat*sz) (fun i q=>U (l.toNat+i) q) (by omega) hc2 (fun r hr=>hfit r (hmem r hr))
     (fun hne=>by
      have hpos:l.toNat<u.toNat:=by
       have:out.length≠0:=fun h=>hne (List.eq_nil_of_length_eq_zero h)
       omega
      rw[hA' hpos,ha (by rintro rfl;simp at h2;omega),hsz]
      simp[BN])
     (fun i r q c hr' hcc=>by
      obtain⟨h3,_⟩:=hget i r hr'
      have:=hc (l.toNat+i) r q c h3 hcc
      rw[show off+((l.toNat+i)*sz+q)=off+l.toNat*sz+(i*sz+q)from by rw[Nat.add_mul];omega]at this
      exact this)
     (fun i r q c hr' hcc=>hr (l.toNat+i) r q c (hget i r hr').1 hcc)
    rw[hlen]at this
    exact this
   have hlo:∀top:Nat,l≤top→∀code,(match lo.map a.eval with | some v=>Instr.sliceBound v top code | none=>pure 0:Sem Nat).run C.P w= .ok l.toNat w:=by
    intro top htop code
    rcases hl with⟨rfl,rfl⟩ | ⟨z,q',rfl,hz⟩
    ·rfl
    ·simp[bnd R hs z q' l (.inl rfl) hz,Bv (P:=C.P) (w:=w) h0 htop]
   rcases hm with⟨rfl,hmx⟩ | ⟨y,q,z,hmx,hhi,hy,rfl⟩
   ·-- no third bound
    have hb:(Instr.sliceBounds true rows.length cap (lo.map a.eval) (hi.map a.eval) none).run C.P w= .ok (l.toNat,u.toNat,cap) w:=by
     have e3:=hlo u.toNat (by omega)
     rcases hu with⟨hh,hu⟩ | ⟨z,q',hh,hz⟩
     ·have e5:=bhi hh
      subst hh
      subst e5
      simp only[Int.toNat_natCast]at e3
      rcases hl with⟨rfl,rfl⟩ | ⟨z,q',rfl,hz⟩
      ·simp[Instr.sliceBounds]
      ·simp[Instr.sliceBounds,bnd R hs z q' l (.inl rfl) hz,Bv (P:=C.P) (w:=w) h0 h1]
     ·subst hh
      have hz':=bnd R hs z q' u (.inr (.inl rfl)) hz
      have e6:=Bv (P:=C.P) (w:=w) (q:=q') (n:=u) (y:=cap) (code:=.sliceAcap) (by omega) (by omega)
      rcases hl with⟨rfl,rfl⟩ | ⟨z2,q2,rfl,hz2⟩
      ·simp[Instr.sliceBounds,hz',e6]
      ·simp[Instr.sliceBounds,hz',e6,bnd R hs z2 q2 l (.inl rfl) hz2,Bv (P:=C.P) (w:=w) (q:=q2) (n:=l) (y:=u.toNat) (code:=.sliceB) h0 (by omega)]
    refine⟨.slice (if cap=l.toNat then A else A.map (·.add (l.toNat*j.size))) (u.toNat - l.toNat) (cap - l.toNat),?_,lists _ (by omega) (by omega) _ (fun h=>by rw[if_neg (by omega)])⟩
    simp[execOp,ho,Instr.sliceAt,Instr.slice,e1,hv,hmx,hb,e4]
   ·have hy':=bnd R hs y q u (.inr (.inr hmx)) hy
    obtain⟨z',q',hz0,hz⟩:∃z' q',hi=some z'∧AP ti s 3 z'= .v (.d (.int q' u)):=by
     rcases hu with⟨hh,_⟩ | ⟨z,q',hh,hz⟩
     ·rw[hhi]at hh;cases hh
     ·exact⟨z,q',hh,hz⟩
    have hz':=bnd R hs z' q' u (.inr (.inl hz0)) hz
    have hb:(Instr.sliceBounds true rows.length cap (lo.map a.eval) (hi.map a.eval) (mx.map a.eval)).run C.P w= .ok (l.toNat,u.toNat,u.toNat) w:=by
     have e6:=Bv (P:=C.P) (w:=w) (q:=q) (n:=u) (y:=cap) (code:=.slice3Acap) (by omega) (by omega)
     have e7:=Bv (P:=C.P) (w:=w) (q:=q') (n:=u) (y:=u.toNat) (code:=.slice3B) (by omega) (by omega)
     rw[hmx,hz0]
     rcases hl with⟨rfl,rfl⟩ | ⟨z2,q2,rfl,hz2⟩
     ·simp[Instr.sliceBounds,hy',hz',e6,e7]
     ·simp[Instr.sliceBounds,hy',hz',e6,e7,bnd R hs z2 q2 l (.inl rfl) hz2,Bv (P:=C.P) (w:=w) (q:=q2) (n:=l) (y:=u.toNat) (code:=.slice3C) h0 (by omega)]
    have hlen:out.length=u.toNat - l.toNat:=by rw[←hout];simp;omega
    refine⟨.slice (if u.toNat=l.toNat then A else A.map (·.add (l.toNat*j.size))) (u.toNat - l.toNat) (u.toNat - l.toNat),?_,lists _ (by omega) (by omega) _ (fun h=>by rw[if_neg (by omega)]),_,by rw[hlen]⟩
    simp[execOp,ho,Instr.sliceAt,Instr.slice,e1,hv,hb,e4]
 ·exact hk.elim
theorem Wl (hti:Ao C.P ti) (h1:BB ti) (t:TypeId) (x y:Operand) (ho:o.op= .index t x y) (hk:D3 ti t (AP ti s t x) (AP ti s 3 y) k):∃out,k out∧A0 C o fresh s h out:=by
 unfold D3 at hk
 obtain⟨q,n,hy,hk⟩:=B6.1 hk
 obtain⟨i,hi,hk⟩:=AF.1 hk
 split at hk
 ·rename_i hd
  split at hk
  ·rename_i b hop
   obtain⟨z,⟨h0,hz⟩,hk⟩:=hk
   refine⟨_,hk,AG fun F σs σh g a w R hs _=>?_⟩
   have hx:=AI ti t x R (s:=s) (fun t ht=>hs t (by subst ht;simp[ho,Op.operands]))
   rw[hop]at hx
   have hx:=Sd hx
   have hyy:=AI ti 3 y R (s:=s) (fun t ht=>hs t (by subst ht;simp[ho,Op.operands]))
   rw[hy]at hyy
   have hyy:=ET hyy
   have e1:=B2 hti hi w
   rw[hd]at e1
   obtain⟨u,hu,hz⟩:=Option.map_eq_some_iff.1 hz
   refine⟨.int .u8 z,?_,.int _ _⟩
   simp[execOp,ho,Instr.index,asIntOf,e1,hx,hyy,h0,hu,hz]
  ·exact hk.elim
 ·rename_i len e hd
  obtain⟨j,hj,hk⟩:=AF.1 hk
  split at hk
  ·rename_i cs hop
   obtain⟨h3,r,h0,hr,hk⟩:=AA.1 hk
   have h3:=Nat.eq_of_beq_eq_true h3
   refine⟨_,hk,AG fun F σs σh g a w R hs _=>?_⟩
   have hx:=AI ti t x R (s:=s) (fun t ht=>hs t (by subst ht;simp[ho,Op.operands]))
   rw[hop]at hx
   have hyy:=AI ti 3 y R (s:=s) (fun t ht=>hs t (by subst ht;simp[ho,Op.operands]))
   rw[hy]at hyy
   have hyy:=ET hyy
   have e1:=B2 hti hi w
   rw[hd]at e1
   have e2:=Dl hti hj w
   obtain⟨hlt,rfl⟩:=D1 hr
   generalize hv:a.eval x=v at hx
   cases (show AX w _ (.agg cs) v from hx)with
   | agg _ vs hsz hag hrel=>
    have hb:n.toNat*j.size+j.size≤(cs.map CV.d).length:=by
     have:=Nat.mul_le_mul_right j.size (show n.toNat+1≤len from hlt)
     rw[Nat.add_mul]at this
     simp
     omega
    obtain⟨u,hu,hru⟩:=NL (g:=g) (h:=σh) hti h1 hj (cs:=cs.map CV.d) (vs:=vs) (off:=n.toNat*j.size) (by simp[hsz]) (fun q c u hc hu=>by
     simp only[List.getElem?_map,Option.map_eq_some_iff]at hc
     obtain⟨c',hc',rfl⟩:=hc
     exact⟨hrel q c' u hc' hu,hag c' (List.mem_of_getElem? hc')⟩) hb
    refine⟨u,?_,?_⟩
    ·have hn:n<(len:Int):=by omega
     simp[execOp,ho,Instr.index,asIntOf,e1,hv,hyy,h0,hn,e2,hu]
    ·rw[←List.map_drop,←List.map_take]at hru
     have e:V1.AZ (AU j.desc) (((cs.drop (n.toNat*j.size)).take j.size).map CV.d)= .d (rowOf (AU j.desc) ((cs.drop (n.toNat*j.size)).take j.size)):=by
      cases hrow:AU j.desc with
      | true=>
       have:∀l:List D,Sa (l.map CV.d)=some l:=by
        intro l
        induction l with
        | nil=>rfl
        | cons x l ih=>simp[Sa,ih]
       unfold V1.AZ
       simp only[]
       rw[this]
       rfl
      | false=>
       have hone:=h1 e j hj hrow
       have hl:((cs.drop (n.toNat*j.size)).take j.size).length=1:=by
        simp at hb ⊢
        omega
       obtain⟨d,hd⟩:=List.length_eq_one_iff.1 hl
       rw[hd]
       rfl
     rw[e]at hru
     exact hru
  ·rename_i cs hop
   obtain⟨h3,p,⟨hp,hlt⟩,hk⟩:=AA.1 hk
   have h3:=Nat.eq_of_beq_eq_true h3
   refine⟨_,hk,AG fun F σs σh g a w R hs _=>?_⟩
   have hx:=AI ti t x R (s:=s) (fun t ht=>hs t (by subst ht;simp[ho,Op.operands]))
   rw[hop]at hx
   have hyy:=AI ti 3 y R (s:=s) (fun t ht=>hs t (by subst ht;simp[ho,Op.operands]))
   rw[hy]at hyy
   have hyy:=ET hyy
   have e1:=B2 hti hi w
   rw[hd]at e1
   have e2:=Dl hti hj w
   obtain⟨vs,hv,hsz,hrel⟩:=hx
   subst hp
   have hb:p*j.size+j.size≤cs.length:=by
    have:=Nat.mul_le_mul_right j.size (show p+1≤len from hlt)
    rw[Nat.add_mul]at this
    omega
   obtain⟨u,hu,hru⟩:=NL (g:=g) (h:=σh) hti h1 hj (cs:=cs) (vs:=vs) (off:=p*j.size) hsz hrel hb
   refine⟨u,?_,hru⟩
   simp[execOp,ho,Instr.index,asIntOf,e1,hv,hyy,hlt,e2,hu]
  ·exact hk.elim
 ·exact hk.elim
theorem Su {w:World}{Z:Ad}{d:D}{v u:Value}(hr:AX w Z d v) (hd:X8 d=some u):v=u:=by
 cases hr<;>simp[X8]at hd<;>exact hd
theorem Pa:∀{l:List D}{vs:List Value},Vo l=some vs→vs.length=l.length∧∀(j:Nat) d u,l[j]?=some d→vs[j]?=some u→X8 d=some u
 | [],vs,h=>by cases h;simp
 | d::l,vs,h=>by
  unfold Vo at h
  split at h
  ·rename_i v hv
   split at h
   ·rename_i vs' hvs
    cases h
    obtain⟨h1,h2⟩:=Pa hvs
    refine⟨by simp[h1],fun j x u hx hu=>?_⟩
    cases j with
    | zero=>simp at hx hu;subst hx;subst hu;exact hv
    | succ j=>simp at hx hu;exact h2 j x u hx hu
   ·cases h
  ·cases h
theorem Wm {w:World}{Z:Ad}{d:D}{v u:Value}(hr:AX w Z d v) (hd:valOf d=some u):v=u:=by
 unfold valOf at hd
 split at hd
 ·rename_i cs
  split at hd
  ·rename_i vs hvs
   cases hd
   cases hr with
   | agg _ us hs hag hrel=>
    obtain⟨h1,h2⟩:=Pa hvs
    congr 1
    apply Array.ext'
    apply List.ext_getElem?
    intro j
    by_cases hj:j<cs.length
    ·have e1:cs[j]?=some cs[j]:=List.getElem?_eq_getElem hj
     have hu:us.toList[j]?=some (us[j]'(by omega)):=by simp[show j<us.size from by omega]
     have hv:vs[j]?=some (vs[j]'(by omega)):=List.getElem?_eq_getElem (by omega)
     have:=Su (hrel j _ _ e1 (Array.getElem?_eq_getElem (show j<us.size by omega))) (h2 j _ _ e1 hv)
     simp only[List.toList_toArray]
     rw[hu,hv,this]
    ·simp only[List.toList_toArray]
     rw[List.getElem?_eq_none (by simp;omega),List.getElem?_eq_none (by omega)]
  ·cases hd
 ·exact Su hr hd
theorem Sv {w:World}{Z:Ad}{v:Value}{d:D}(h:bO v=some d):AX w Z d v∧d.isAgg=false:=by
 unfold bO at h
 split at h<;>first
  | (cases h;exact⟨.int _ _,rfl⟩)
  | (cases h;exact⟨.bool _,rfl⟩)
  | (cases h;exact⟨.str _,rfl⟩)
  | cases h
theorem Sx {w:World}{Z:Ad}:∀{l:List Value}{ds:List D},bP l=some ds→l.length=ds.length∧∀(j:Nat) d u,ds[j]?=some d→l[j]?=some u→AX w Z d u∧d.isAgg=false
 | [],ds,h=>by cases h;simp
 | v::l,ds,h=>by
  unfold bP at h
  split at h
  ·rename_i d hd
   split at h
   ·rename_i ds' hds
    cases h
    obtain⟨h1,h2⟩:=Sx hds
    refine⟨by simp[h1],fun j x u hx hu=>?_⟩
    cases j with
    | zero=>simp at hx hu;subst hx;subst hu;exact Sv hd
    | succ j=>simp at hx hu;exact h2 j x u hx hu
   ·cases h
  ·cases h
theorem bT {w:World}{Z:Ad}{v:Value}{d:D}(h:mW v=some d):AX w Z d v:=by
 unfold mW at h
 split at h
 ·rename_i vs
  split at h
  ·rename_i ds hds
   cases h
   obtain⟨h1,h2⟩:=Sx (w:=w) (Z:=Z) hds
   refine .agg _ _ (by simpa using h1) (fun c hc=>?_) fun j c v hc hv=>(h2 j c v hc (by simpa using hv)).1
   obtain⟨j,hj⟩:=List.mem_iff_getElem?.1 hc
   have hlt:=(List.getElem?_eq_some_iff.1 hj).1
   exact (h2 j c _ hj (List.getElem?_eq_getElem (by omega))).2
  ·cases h
 ·exact (Sv h).1
theorem Wn (hti:Ao C.P ti) (x:Operand) (xt t:TypeId) (ok:Bool) (ho:o.op= .typeAssert x xt t ok) (hk:GV ti t ok (AP ti s 0 x) k):∃out,k out∧A0 C o fresh s h out:=by
 unfold GV at hk
 obtain⟨j,hj,hk⟩:=AF.1 hk
 obtain⟨hn,hk1⟩:=AA.1 hk
 obtain⟨hok,hk2⟩:=AA.1 hk1
 obtain⟨hz0,hk3⟩:=AA.1 hk2
 clear hk hk1 hk2
 subst hok
 revert hk3
 intro hk
 obtain⟨_,ii,j1,j2,_,j4,j5,j6,j7⟩:=hti t j hj
 have e3:∀w,(zeroValue t).run C.P w= .ok j.zero w:=fun w=>by simp[zeroValue,typeInfo,j1,j4]
 have rel:∀(w:World) (Z:Ad) (g:AL) (h:AE),Ag w Z g h (V1.AZ (AU j.desc) j.zc) j.zero:=by
  intro w Z g h
  have hc:∀(q:Nat) c u,j.zc[q]?=some c→j.zero.cells[q]?=some u→Au w Z g h c u:=fun q c u h1 h2=>Dk (j7 q c u h1 h2)
  have hl:j.zero.cells.size=j.zc.length:=by rw[j5,j6]
  have hz1:=hz0
  unfold FE at hz1
  split at hz1
  ·rename_i cs hcs
   rw[hcs]at hc hl ⊢
   exact (Ag.AZ hl hc).1 hz1
  ·cases hz1
  ·rename_i v h1 h2
   have hrow:AU j.desc=false:=by cases hh:AU j.desc<;>simp[hh,BQ]at hz1 ⊢
   have hcell:j.zero.cells=#[j.zero]:=by
    cases hz:j.zero<;>first | rfl | exact absurd hz (h1 _)
   exact (Ag.AZ hl hc).2 hrow _ hcell
 have e1:=fun w=>B2 hti hj w
 have run:∀(v:Value) (out:Value) (w:World),(match v with
   | .nilIface=>out= .tuple #[j.zero,.bool false]
   | .iface t' u=>out=if t'=t then .tuple #[u,.bool true]else .tuple #[j.zero,.bool false]
   | _=>False)→(Instr.typeAssert v xt t true).run C.P w= .ok out w:=by
  intro v out w hv
  unfold Instr.typeAssert
  simp only[Sem.run_bind,e1,Result.andThen]
  generalize j.desc=d at hn
  split at hv
  ·subst hv;cases d<;>first | (cases hn;done) | simp[e3]
  ·subst hv
   rename_i t' u
   by_cases ht:t'=t
   ·cases d<;>first | (cases hn;done) | simp[ht]
   ·cases d<;>first | (cases hn;done) | simp[ht,e3]
  ·exact hv.elim
 have fin:∀(v:Value) (y:V1) (b:Bool) (u:Value),AP ti s 0 x= .v (.c (.kv v))→(∀w,(Instr.typeAssert v xt t true).run C.P w= .ok (.tuple #[u,.bool b]) w)→(∀w Z g h,Ag w Z g h y u)→A0 C o fresh s h ⟨.t [y,.d (.bool b)],[],[]⟩:=by
  intro v y b u hop hr hy
  refine AG fun F σs σh g a w R hs _=>?_
  have hx:=AI ti 0 x R (s:=s) (fun t ht=>hs t (by subst ht;simp[ho,Op.operands]))
  rw[hop]at hx
  have hx:a.eval x=v:=hx.1
  refine⟨.tuple #[u,.bool b],by simp[execOp,ho,hx,hr],#[u,.bool b],rfl,rfl,fun q c u' hc hu=>?_⟩
  match q with
  | 0=>simp at hc hu;subst hc;subst hu;exact hy _ _ _ _
  | 1=>simp at hc hu;subst hc;subst hu;exact AX.bool _
  | q+2=>simp at hc
 split at hk
 ·rename_i v hop
  split at hk
  ·rename_i t' u
   split at hk
   ·rename_i hb
    have hb:t'=t:=Nat.eq_of_beq_eq_true hb
    split at hk
    ·rename_i d hd
     exact⟨_,hk,fin _ _ _ _ hop (fun w=>run _ _ _ (by simp[hb])) fun w Z g h=>bT hd⟩
    ·exact hk.elim
   ·rename_i hb
    have hb:¬t'=t:=fun e=>by subst e;simp at hb
    exact⟨_,hk,fin _ _ _ _ hop (fun w=>run _ _ _ (by simp[hb])) rel⟩
  ·exact⟨_,hk,fin _ _ _ _ hop (fun w=>run _ _ _ rfl) rel⟩
  ·exact hk.elim
 ·exact hk.elim
theorem YI (hti:Ao C.P ti) (t:TypeId) (x:Operand) (ho:o.op= .makeInterface t x) (hk:HR ti t (AP ti s t x) k):∃out,k out∧A0 C o fresh s h out:=by
 unfold HR at hk
 obtain⟨i,hi,hk⟩:=AF.1 hk
 obtain⟨hn,hk⟩:=AA.1 hk
 split at hk
 ·rename_i d hop
  split at hk
  ·rename_i u hu
   refine⟨_,hk,AG fun F σs σh g a w R hs _=>?_⟩
   have hx:=AI ti t x R (s:=s) (fun t ht=>hs t (by subst ht;simp[ho,Op.operands]))
   rw[hop]at hx
   have hx:=Wm (show AX w _ d _ from hx) hu
   have e1:=B2 hti hi w
   refine⟨.iface t u,?_,rfl,rfl⟩
   have:(Instr.makeInterface t u).run C.P w= .ok (.iface t u) w:=by
    unfold Instr.makeInterface
    simp only[Sem.run_bind,e1,Result.andThen]
    generalize i.desc=d at hn
    cases d<;>first | rfl | cases hn
   simp[execOp,ho,hx,this]
  ·exact hk.elim
 ·exact hk.elim
end
end Go.AM
namespace Go.AM
open Go Go.RowKit
section
variable {C:Cx}{F:Nat→Prop}{s:AN}{h:AE}{g:AL}{a:Act}{w w':World}{Z:Ad}
theorem AR.grow (R:AR C F s h g a w) (hg:w.grownBy w' none):AR C F s h g a w':=by
 obtain⟨h1,h2,h3,h4,h5⟩:=hg
 have hblk:∀b,b<w.heap.size→w'.heap[b]?=w.heap[b]?:=fun b hb=>h5 b hb (by simp)
 have hcell:∀b o u,w.cell? ⟨b,o,none⟩=some u→w'.cell? ⟨b,o,none⟩=some u:=fun b o u hu=>
  (World.cell?_of_block (a:=⟨b,o,none⟩) (hblk b (World.block_lt_of_cell? w ⟨b,o,none⟩ hu))).trans hu
 refine R.step (fun _=>False) ⟨fun b o u hu hz=>⟨hcell b o u hu,hz⟩,fun _ _ _=>rfl,fun _ _ _=>rfl,fun _ hi=>hi,fun i k sz e _ hk=>⟨k,Nat.le_refl _,hk,fun _=>rfl⟩,fun _ hi=>hi,fun i _ hk=>⟨hk,rfl⟩⟩
  ⟨h1,h2,h3,h4,fun b hb _=>hblk b hb,fun b o u hu _=>hcell b o u hu⟩ (fun i _=>⟨rfl,rfl⟩) (fun i o b _ hi hb=>hblk b ((R.heap.objs i o hi).lt hb))
  (fun _ _ hf=>hf.elim) (fun _ _ _ _ hf=>hf.elim) (fun _ _ _ _ _ hf=>hf.elim) (fun _ hf=>hf.elim) (fun n hn=>R.free n hn)
theorem AX.Fi {ag:Bool}{sz:Nat}{rows:List D}{A:Option Addr}{m cap:Nat}(hsz:0<sz) (r:AX w Z (.list ag sz rows) (.slice A m cap)):
  m=rows.length∧cap≤maxLen∧m≤cap∧(rows≠[]→∃b o,A=some ⟨b,o,none⟩)∧(∀x∈rows,x.fits ag sz)∧∃news:List Value,news.length=rows.length*sz∧(∀u∈news,u.oneCell'=true)∧
   (∀b o,A=some ⟨b,o,none⟩→∀j u,news[j]?=some u→w.cell? ⟨b,o+j,none⟩=some u∧¬Z b (o+j))∧
   ∀(i:Nat) x (j:Nat) c,rows[i]?=some x→x.cells[j]?=some c→∃u,news[i*sz+j]?=some u∧AX w Z c u:=by
 cases r with
 | list _ _ _ _ _ b o U hcap hmax hfit ha hc hr=>
  refine⟨rfl,hmax,hcap,fun hne=>⟨b,o,ha hne⟩,hfit,(List.range (rows.length*sz)).map (fun k=>U (k / sz) (k % sz)),by simp,?_,?_,?_⟩
  ·intro u hu
   obtain⟨k,hk,rfl⟩:=List.mem_map.1 hu
   have hk:=List.mem_range.1 hk
   have hi:k / sz<rows.length:=Nat.div_lt_of_lt_mul (by rw[Nat.mul_comm];exact hk)
   have hx:rows[k / sz]?=some rows[k / sz]:=List.getElem?_eq_getElem hi
   obtain⟨f1,f2,f3⟩:=hfit _ (List.getElem_mem hi)
   have hj:k % sz<rows[k / sz].cells.length:=by rw[f2];exact Nat.mod_lt _ hsz
   have hcc:=List.getElem?_eq_getElem hj
   exact (hr _ _ _ _ hx hcc).BW (f3 _ (List.getElem_mem hj))
  ·intro b' o' hA j u hj
   rw[List.getElem?_map]at hj
   obtain⟨k,hk,rfl⟩:=Option.map_eq_some_iff.1 hj
   have hlt:j<rows.length*sz:=by simpa using (List.getElem?_eq_some_iff.1 hk).1
   have hkj:k=j:=by simpa [List.getElem?_range hlt] using hk.symm
   subst hkj
   have hi:k / sz<rows.length:=Nat.div_lt_of_lt_mul (by rw[Nat.mul_comm];exact hlt)
   have hne:rows≠[]:=by rintro rfl;simp at hi
   have hA2:=ha hne
   rw[hA]at hA2
   cases hA2
   have hx:rows[k / sz]?=some rows[k / sz]:=List.getElem?_eq_getElem hi
   obtain⟨f1,f2,f3⟩:=hfit _ (List.getElem_mem hi)
   have hj:k % sz<rows[k / sz].cells.length:=by rw[f2];exact Nat.mod_lt _ hsz
   have:=hc _ _ _ _ hx (List.getElem?_eq_getElem hj)
   rw[show k / sz*sz+k % sz=k from by rw[Nat.mul_comm];exact Nat.div_add_mod k sz]at this
   exact this
  ·intro i x j c hx hj
   obtain⟨f1,f2,f3⟩:=hfit _ (List.mem_of_getElem? hx)
   have hjl:j<sz:=by rw[←f2];exact (List.getElem?_eq_some_iff.1 hj).1
   have hil:=(List.getElem?_eq_some_iff.1 hx).1
   have hlt:i*sz+j<rows.length*sz:=by
    have:(i+1)*sz≤rows.length*sz:=Nat.mul_le_mul_right _ hil
    rw[Nat.add_mul]at this
    omega
   refine⟨U i j,?_,hr i x j c hx hj⟩
   rw[List.getElem?_map,List.getElem?_range hlt]
   have e1:(i*sz+j) / sz=i:=by rw[Nat.mul_comm,Nat.mul_add_div hsz,Nat.div_eq_of_lt hjl,Nat.add_zero]
   have e2:(i*sz+j) % sz=j:=by rw[Nat.mul_comm,Nat.mul_add_mod,Nat.mod_eq_of_lt hjl]
   simp[e1,e2]
theorem HU {e:TypeId}{ag:Bool}{sz:Nat}{out:List D}{zs:List Value}{v:Value}(hsz:0<sz) (hown:w.ownsRow 0 e sz v out.length zs)
  (hfit:∀x∈out,x.fits ag sz) (hZ:∀b,blk v=some b→∀o,o<out.length*sz→¬Z b o)
  (hr:∀(i:Nat) x (j:Nat) c,out[i]?=some x→x.cells[j]?=some c→∃u,zs[i*sz+j]?=some u∧AX w Z c u):AX w Z (.list ag sz out) v:=by
 obtain⟨hl,h2⟩:=hown
 rcases h2 with⟨rfl,h0⟩ | ⟨q,cap,cur,rfl,_,hh,hnc,hcm,hcs,htake⟩
 ·have:out=[]:=List.eq_nil_of_length_eq_zero h0
  subst this
  exact FD ag sz
 ·refine .list ag sz out (some ⟨q,0,none⟩) cap q 0 (fun i j=>zs.getD (i*sz+j) undef) hnc hcm hfit (fun _=>rfl) (fun i x j c hx hj=>?_) (fun i x j c hx hj=>?_)
  ·obtain⟨u,hu,_⟩:=hr i x j c hx hj
   have hlt:=(List.getElem?_eq_some_iff.1 hu).1
   have hg:zs.getD (i*sz+j) undef=u:=by simp[List.getD_eq_getElem?_getD,hu]
   rw[hg]
   refine⟨?_,by rw[Nat.zero_add];exact hZ q rfl _ (by omega)⟩
   have:cur[i*sz+j]?=some u:=by
    rw[←htake,List.getElem?_take]at hu
    split at hu
    ·simpa using hu
    ·cases hu
   simp[World.cell?,hh,this]
  ·obtain⟨u,hu,hru⟩:=hr i x j c hx hj
   simpa [List.getD_eq_getElem?_getD,hu] using hru
theorem JC {ag:Bool}{sz:Nat}{rows ys:List D}{xs news:List Value}(h1:xs.length=rows.length*sz) (hfit:∀x∈ys,x.fits ag sz) (hfit':∀x∈rows,x.fits ag sz)
  (hx:∀(i:Nat) x (j:Nat) c,rows[i]?=some x→x.cells[j]?=some c→∃u,xs[i*sz+j]?=some u∧AX w Z c u)
  (hy:∀(i:Nat) x (j:Nat) c,ys[i]?=some x→x.cells[j]?=some c→∃u,news[i*sz+j]?=some u∧AX w Z c u):
  ∀(i:Nat) x (j:Nat) c,(rows++ys)[i]?=some x→x.cells[j]?=some c→∃u,(xs++news)[i*sz+j]?=some u∧AX w Z c u:=by
 intro i x j c hi hj
 by_cases hl:i<rows.length
 ·rw[List.getElem?_append_left hl]at hi
  obtain⟨u,hu,hr⟩:=hx i x j c hi hj
  exact⟨u,by rw[List.getElem?_append_left (List.getElem?_eq_some_iff.1 hu).1];exact hu,hr⟩
 ·rw[List.getElem?_append_right (by omega)]at hi
  obtain⟨u,hu,hr⟩:=hy _ x j c hi hj
  have hle:rows.length*sz≤i*sz:=Nat.mul_le_mul_right _ (by omega)
  refine⟨u,?_,hr⟩
  rw[List.getElem?_append_right (by omega),←hu]
  congr 1
  rw[h1,Nat.sub_mul]
  omega
theorem Fq {ag:Bool}{sz:Nat}{rows ys:List D}(h1:∀x∈rows,x.fits ag sz) (h2:∀x∈ys,x.fits ag sz):∀x∈rows++ys,x.fits ag sz:=by
 intro x hx
 rcases List.mem_append.1 hx with hx | hx
 ·exact h1 x hx
 ·exact h2 x hx
theorem Ci {P:Program}{w:World}{t ty e:TypeId}{i:TypeInfo}(ht:P.underlying t=some (.slice e)) (hi:P.info? e=some i) {base A:Option Addr}{n cap c:Nat}(hn:n≤cap):
  (Builtin.append_ #[t,t] ty #[.slice base n cap,.slice A 0 c]).run P w= .ok (.slice base n cap) w:=by
 have hz:((some (TypeDesc.slice e)) matches some (.int _))=false:=rfl
 cases base<;>cases A<;>simp[Builtin.append_,underlying,typeInfo,sizeOf,ht,hi,Builtin.lenOf,hn,Builtin.firstCells,loadCells,loadCellsFrom,storeCells]
theorem AR.plain (R:AR C F s h g a w) (hg:w.grownBy w' none) {e:TypeId}{ag:Bool}{sz:Nat}{out:List D}{zs:List Value}{v:Value}(hsz:0<sz) (hown:w'.ownsRow w.heap.size e sz v out.length zs)
  (hfit:∀x∈out,x.fits ag sz) (hr:∀(i:Nat) x (j:Nat) c,out[i]?=some x→x.cells[j]?=some c→∃u,zs[i*sz+j]?=some u∧AX w (Al (zone g h) C.X) c u):
  AR C F s h g a w'∧AX w' (Al (zone g h) C.X) (.list ag sz out) v:=by
 have R':=R.grow hg
 obtain⟨w1,w2,w3,w4,w5⟩:=hg
 have hX:∀b o,C.X b o→b<w.heap.size:=fun b o hx=>Nat.lt_of_lt_of_le (R.xs b o hx) R.frame.size
 refine⟨R',HU hsz (e:=e) (zs:=zs) ?_ hfit ?_ ?_⟩
 ·obtain⟨h1,h2⟩:=hown
  refine⟨h1,?_⟩
  rcases h2 with h2 | ⟨q,cap,cur,h3,_,h4⟩
  ·exact .inl h2
  ·exact .inr ⟨q,cap,cur,h3,Nat.zero_le _,h4⟩
 ·intro b hb o _
  have hge:w.heap.size≤b:=by
   rcases hown.2 with⟨h3,_⟩ | ⟨q,cap,cur,h3,hq,_⟩
   ·rw[h3]at hb;simp[blk]at hb
   ·rw[h3]at hb;simp[blk]at hb;omega
  rintro (hz | hx)
  ·exact absurd (Vp R.heap hz) (by omega)
  ·exact absurd (hX b o hx) (by omega)
 ·intro i x j c hi hj
  obtain⟨u,hu,hru⟩:=hr i x j c hi hj
  refine⟨u,hu,hru.mono fun b o u hu hz=>⟨?_,hz⟩⟩
  exact (World.cell?_of_block (a:=⟨b,o,none⟩) (w5 b (World.block_lt_of_cell? w ⟨b,o,none⟩ hu) (by simp))).trans hu
theorem AR.owned (R:AR C F s h g a w) {n:Nat}(hf:F n) (hg:w.grownBy w' none) {e:TypeId}{ag:Bool}{sz:Nat}{out:List D}{zs:List Value}{v:Value}(hsz:0<sz) (hown:w'.ownsRow w.heap.size e sz v out.length zs)
  (hfit:∀x∈out,x.fits ag sz) (hr:∀(i:Nat) x (j:Nat) c,out[i]?=some x→x.cells[j]?=some c→∃u,zs[i*sz+j]?=some u∧AX w (Al (zone g h) C.X) c u):
  AR C (fun k=>F k∧k≠n) s (AJ h (.loc n) (.tok out.length sz e)) (Ah g (.loc n) v) a w'∧
   Au w' (Al (zone (Ah g (.loc n) v) (AJ h (.loc n) (.tok out.length sz e))) C.X) (Ah g (.loc n) v) (AJ h (.loc n) (.tok out.length sz e)) (.lst (.loc n) ag sz out) v:=by
 obtain⟨w1,w2,w3,w4,w5⟩:=hg
 obtain⟨hgn,hhn⟩:=R.free n hf
 have hX:∀b o,C.X b o→b<w.heap.size:=fun b o hx=>Nat.lt_of_lt_of_le (R.xs b o hx) R.frame.size
 have hblk:∀b,b<w.heap.size→w'.heap[b]?=w.heap[b]?:=fun b hb=>w5 b hb (by simp)
 have hcell:∀b o u,w.cell? ⟨b,o,none⟩=some u→w'.cell? ⟨b,o,none⟩=some u:=fun b o u hu=>
  (World.cell?_of_block (a:=⟨b,o,none⟩) (hblk b (World.block_lt_of_cell? w ⟨b,o,none⟩ hu))).trans hu
 have hvb:∀b,blk v=some b→w.heap.size≤b:=by
  intro b hb
  rcases hown.2 with⟨h3,_⟩ | ⟨q,cap,cur,h3,hq,_⟩
  ·rw[h3]at hb;simp[blk]at hb
  ·rw[h3]at hb;simp[blk]at hb;omega
 have hsl:HM v:=by
  rcases hown.2 with⟨h3,_⟩ | ⟨q,cap,cur,h3,hq,_⟩<;>rw[h3]<;>trivial
 have hne:∀{i:Id} {u:Value},g i=u→u≠undef→i≠ .loc n:=by
  rintro i u hv hu rfl
  exact hu (hv▸hgn)
 have now:∀{i:Id},isTu (g i)→i≠ .loc n:=by
  rintro i hi rfl
  rw[hgn]at hi
  exact Aw hi
 have hzz:∀b o,Al (zone (Ah g (.loc n) v) (AJ h (.loc n) (.tok out.length sz e))) C.X b o→Al (zone g h) C.X b o∨(w.heap.size≤b∧blk v=some b∧out.length*sz≤o):=by
  rintro b o (⟨i,ob,hi,h1⟩ | hx)
  ·by_cases hin:i= .loc n
   ·subst hin
    simp[AJ,Ah]at hi h1
    subst hi
    have h1:BC v b∧out.length*sz≤o:=h1
    have h2:=h1.1.WX hsl
    exact .inr ⟨hvb b h2,h2,h1.2⟩
   ·simp only[AJ,Ah,if_neg hin]at hi h1
    exact .inl (.inl ⟨i,ob,hi,h1⟩)
  ·exact .inl (.inr hx)
 have E:Gp w (Al (zone g h) C.X) g h w' (Al (zone (Ah g (.loc n) v) (AJ h (.loc n) (.tok out.length sz e))) C.X) (Ah g (.loc n) v) (AJ h (.loc n) (.tok out.length sz e)):=by
  refine⟨fun b o u hu hz=>⟨hcell b o u hu,fun hz'=>?_⟩,fun i b hb=>if_neg (hne hb (by simp[undef])),fun i q hq=>if_neg (hne hq (by simp[undef])),fun i hi=>?_,fun i k sz' e' hi hk=>?_,fun i hi=>by simpa [Ah,now hi] using hi,
   fun i hi hk=>⟨by simpa [AJ,now hi] using hk,by simp[Ah,now hi]⟩⟩
  ·have:=World.block_lt_of_cell? w ⟨b,o,none⟩ hu
   simp at this
   rcases hzz b o hz' with h1 | ⟨h1,_⟩
   ·exact hz h1
   ·omega
  ·have:i≠ .loc n:=by rintro rfl;rw[hgn]at hi;exact hi
   simpa [Ah,this] using hi
  ·have:i≠ .loc n:=by rintro rfl;rw[hgn]at hi;exact hi
   exact⟨k,Nat.le_refl _,by simpa [AJ,this] using hk,fun _=>by simp[Ah,this]⟩
 have hown0:w'.ownsRow 0 e sz v out.length zs:=by
  obtain⟨h1,h2⟩:=hown
  refine⟨h1,?_⟩
  rcases h2 with h2 | ⟨q,cap,cur,h3,_,h4⟩
  ·exact .inl h2
  ·exact .inr ⟨q,cap,cur,h3,Nat.zero_le _,h4⟩
 refine⟨R.step (F':=fun k=>F k∧k≠n) (fun i=>i= .loc n) E ⟨w1,w2,w3,w4,fun b hb _=>hblk b hb,fun b o u hu _=>hcell b o u hu⟩ ?_ ?_ ?_ ?_ ?_ ?_ ?_,?_⟩
 ·intro i hi
  simp[AJ,Ah,hi]
 ·intro i o b _ hi hb
  exact hblk b ((R.heap.objs i o hi).lt hb)
 ·rintro i o rfl ho
  simp[AJ]at ho
  subst ho
  refine⟨hsz,zs,?_⟩
  simpa [Ah] using hown0
 ·rintro i o b p rfl ho hb
  simp[AJ]at ho
  subst ho
  simp[Ah]at hb
  exact .inr (hvb b (hb.F7.blk.WX hsl))
 ·rintro i j _ _ _ rfl rfl _ _ _ _
  rfl
 ·intro j hj
  exact absurd hj (by simp)
 ·rintro k ⟨hk,hkn⟩
  have:=R.free k hk
  simp[Ah,AJ,hkn,this]
 ·refine⟨HU hsz hown0 hfit (fun b hb o ho hz=>?_) (fun i x j c hi hj=>?_),by simpa [Ah] using hsl,fun k sz' e' hk=>?_⟩
  ·rcases hzz b o hz with (h1 | hx) | ⟨_,_,h1⟩
   ·exact absurd (Vp R.heap h1) (by have:=hvb b hb;omega)
   ·exact absurd (hX b o hx) (by have:=hvb b hb;omega)
   ·omega
  ·obtain⟨u,hu,hru⟩:=hr i x j c hi hj
   exact⟨u,hu,E.Er hru⟩
  ·simp[AJ]at hk
   obtain⟨rfl,rfl,rfl⟩:=hk
   exact⟨rfl,Nat.le_refl _,fun _=>by simp[Ah]⟩
end
end Go.AM
namespace Go.AM
open Go Go.RowKit
section
variable {C:Cx}{F:Nat→Prop}{s:AN}{h:AE}{g:AL}{a:Act}{w w':World}
theorem AR.Ip (R:AR C F s h g a w) {i n sz:Nat}{e:TypeId}{ag:Bool}{out:List D}{zs:List Value}{v:Value}(hsz:0<sz) (hi:h (.loc i)=some (.tok n sz e))
  (hos:w'.os=w.os∧w'.tape=w.tape∧w'.output=w.output∧w.heap.size≤w'.heap.size)
  (hblk:∀b,b<w.heap.size→blk (g (.loc i))≠some b→w'.heap[b]?=w.heap[b]?)
  (hcell:∀b o u,w.cell? ⟨b,o,none⟩=some u→¬(blk (g (.loc i))=some b∧n*sz≤o)→w'.cell? ⟨b,o,none⟩=some u)
  (hown:w'.ownsRow 0 e sz v out.length zs) (hvb:∀b,blk v=some b→blk (g (.loc i))=some b∨w.heap.size≤b) (hlt:n<out.length)
  (hfit:∀x∈out,x.fits ag sz) (hr:∀(j:Nat) x (q:Nat) c,out[j]?=some x→x.cells[q]?=some c→∃u,zs[j*sz+q]?=some u∧AX w (Al (zone g h) C.X) c u):
  AR C F s (AJ h (.loc i) (.tok out.length sz e)) (Ah g (.loc i) v) a w'∧
   Au w' (Al (zone (Ah g (.loc i) v) (AJ h (.loc i) (.tok out.length sz e))) C.X) (Ah g (.loc i) v) (AJ h (.loc i) (.tok out.length sz e)) (.lst (.loc i) ag sz out) v:=by
 have hX:∀b o,C.X b o→b<w.heap.size:=fun b o hx=>Nat.lt_of_lt_of_le (R.xs b o hx) R.frame.size
 have hnm:n*sz≤out.length*sz:=Nat.mul_le_mul_right _ (Nat.le_of_lt hlt)
 have hzone:∀b o,blk (g (.loc i))=some b→n*sz≤o→zone g h b o:=fun b o hb ho=>⟨.loc i,_,hi,.inl hb,ho⟩
 have hgsl:HM (g (.loc i)):=by
  obtain⟨_,xs,_,h2⟩:=R.heap.objs _ _ hi
  rcases h2 with⟨h3,_⟩ | ⟨q,cap,cur,h3,_⟩<;>rw[h3]<;>trivial
 have hzz:∀b o,Al (zone (Ah g (.loc i) v) (AJ h (.loc i) (.tok out.length sz e))) C.X b o→Al (zone g h) C.X b o∨w.heap.size≤b:=by
  rintro b o (⟨j,ob,hj,h1⟩ | hx)
  ·by_cases hin:j= .loc i
   ·subst hin
    simp[AJ,Ah]at hj h1
    subst hj
    have h1:BC v b∧out.length*sz≤o:=h1
    rcases hvb b (h1.1.WX (M5 hown))with h2 | h2
    ·exact .inl (.inl (hzone b o h2 (Nat.le_trans hnm h1.2)))
    ·exact .inr h2
   ·simp only[AJ,Ah,if_neg hin]at hj h1
    exact .inl (.inl ⟨j,ob,hj,h1⟩)
  ·exact .inl (.inr hx)
 have E:Gp w (Al (zone g h) C.X) g h w' (Al (zone (Ah g (.loc i) v) (AJ h (.loc i) (.tok out.length sz e))) C.X) (Ah g (.loc i) v) (AJ h (.loc i) (.tok out.length sz e)):=by
  have ne:∀{j:Id} {u:Value},g j=u→¬HM u→j≠ .loc i:=by
   rintro j u hu hs rfl
   exact hs (hu▸hgsl)
  refine⟨fun b o u hu hz=>⟨hcell b o u hu (fun hh=>hz (.inl (hzone b o hh.1 hh.2))),fun hz'=>?_⟩,fun j b hb=>if_neg (ne hb (by simp[HM])),fun j q hq=>if_neg (ne hq (by simp[HM])),fun j hj=>?_,fun j k sz' e' hj hk=>?_,fun j hj=>?_,fun j hj hk=>?_⟩
  ·have:=World.block_lt_of_cell? w ⟨b,o,none⟩ hu
   simp at this
   rcases hzz b o hz' with h1 | h1
   ·exact hz h1
   ·omega
  ·by_cases hin:j= .loc i
   ·subst hin
    simp only[Ah,if_true]
    rcases hown.2 with⟨h3,_⟩ | ⟨q,cap,cur,h3,_⟩<;>rw[h3]<;>trivial
   ·simpa [Ah,hin] using hj
  ·by_cases hin:j= .loc i
   ·subst hin
    simp[AJ]at hk
    obtain⟨rfl,rfl,rfl⟩:=hk
    exact⟨n,Nat.le_of_lt hlt,hi,fun h=>by omega⟩
   ·exact⟨k,Nat.le_refl _,by simpa [AJ,hin] using hk,fun _=>by simp[Ah,hin]⟩
  ·have hin:j≠ .loc i:=by
    rintro rfl
    exact Cb hgsl hj
   simpa [Ah,hin] using hj
  ·have hin:j≠ .loc i:=by
    rintro rfl
    simp[AJ,isLive]at hk
   exact⟨by simpa [AJ,hin] using hk,by simp[Ah,hin]⟩
 have hvblk:HM v:=by
  rcases hown.2 with⟨h3,_⟩ | ⟨q,cap,cur,h3,_⟩<;>rw[h3]<;>trivial
 refine⟨R.step (F':=F) (fun j=>j= .loc i) E ⟨hos.1,hos.2.1,hos.2.2.1,hos.2.2.2,fun b hb hz=>hblk b hb (fun hh=>hz (n*sz) (hzone b _ hh (Nat.le_refl _))),fun b o u hu hz=>hcell b o u hu (fun hh=>hz (hzone b o hh.1 hh.2))⟩ ?_ ?_ ?_ ?_ ?_ ?_ ?_,?_⟩
 ·intro j hj
  simp[AJ,Ah,hj]
 ·intro j o b hj ho hb
  refine hblk b ((R.heap.objs j o ho).lt hb) (fun hh=>hj (R.heap.sep j (.loc i) o _ b ho hi hb (.inl hh)))
 ·rintro j o rfl ho
  simp[AJ]at ho
  subst ho
  refine⟨hsz,zs,?_⟩
  simpa [Ah] using hown
 ·rintro j o b p rfl ho hb
  simp[AJ]at ho
  subst ho
  simp[Ah]at hb
  have hb:BC v b∧out.length*sz≤p:=hb
  rcases hvb b (hb.1.WX (M5 hown))with h1 | h1
  ·exact .inl ⟨_,_,rfl,hi,.inl h1,Nat.le_trans hnm hb.2⟩
  ·exact .inr h1
 ·rintro j k _ _ _ rfl rfl _ _ _ _
  rfl
 ·intro j hj
  exact absurd hj (by simp)
 ·intro k hk
  have:=R.free k hk
  have hne:k≠i:=by rintro rfl;rw[this.2]at hi;cases hi
  simp[Ah,AJ,hne,this]
 ·refine⟨HU hsz hown hfit (fun b hb o ho hz=>?_) (fun j x q c hj hq=>?_),by simpa [Ah] using hvblk,fun k sz' e' hk=>?_⟩
  ·-- the cells below the new length are nobody's
   rcases hz with⟨j,ob,hj,h1⟩ | hx
   ·by_cases hin:j= .loc i
    ·subst hin
     simp[AJ,Ah]at hj h1
     subst hj
     have:=(show BC v b∧out.length*sz≤o from h1).2
     omega
    ·simp only[AJ,Ah,if_neg hin]at hj h1
     rcases hvb b hb with h2 | h2
     ·exact hin (R.heap.sep j (.loc i) ob _ b hj hi h1.F7 (.inl h2))
     ·exact absurd ((R.heap.objs j ob hj).lt h1.F7) (by omega)
   ·rcases hvb b hb with h2 | h2
    ·exact R.heap.apart (.loc i) _ b o hi (.inl h2) hx
    ·exact absurd (hX b o hx) (by omega)
  ·obtain⟨u,hu,hru⟩:=hr j x q c hj hq
   exact⟨u,hu,E.Er hru⟩
  ·simp[AJ]at hk
   obtain⟨rfl,rfl,rfl⟩:=hk
   exact⟨rfl,Nat.le_refl _,fun _=>by simp[Ah]⟩
theorem Pb {h:AE}{i:Id}{o:AB}(hi:h i=some o):AJ h i o=h:=by
 funext j
 unfold AJ
 split
 ·subst_vars;exact hi.symm
 ·rfl
theorem Pc {g:AL}{i:Id}:Ah g i (g i)=g:=by
 funext j
 unfold Ah
 split
 ·subst_vars;rfl
 ·rfl
end
section
variable {C:Cx}{ti:Types}{o:Oper}{fresh:Nat}{s:AN}{h:AE}{k:Out→Prop}
theorem CT (hti:Ao C.P ti) {e:TypeId}{j:TI}(hj:ti e=some j):∃i,C.P.info? e=some i∧i.size=j.size∧i.bytes=j.bytes∧i.zero=some j.zero∧j.zero.cells.size=j.size:=by
 obtain⟨_,i,h1,h2,h3,h4,h5,_⟩:=hti e j hj
 exact⟨i,h1,h2,h3,h4,h5⟩
theorem Sy (hti:Ao C.P ti) {t ty e:TypeId}{q j:TI}(hq:ti t=some q) (hd:q.desc= .slice e) (hj:ti e=some j) (hsz:0<j.size) {w:World}{Z:Ad}{ag:Bool}{rows ys:List D}{A B:Option Addr}{cap m c:Nat}
  (hr:AX w Z (.list ag j.size rows) (.slice A rows.length cap)) (hcap:cap=rows.length) (hnil:rows=[]→A=none→cap=0) (hy:AX w Z (.list ag j.size ys) (.slice B m c)) (hne:ys≠[])
  (hmax:rows.length+ys.length≤maxLen) (hbytes:(rows.length+ys.length)*j.bytes≤140737488355328):
  ∃v' w' zs,(Builtin.append_ #[t,t] ty #[.slice A rows.length cap,.slice B m c]).run C.P w= .ok v' w'∧w'.ownsRow w.heap.size e j.size v' (rows++ys).length zs∧w.grownBy w' none∧
   (∀x∈rows++ys,x.fits ag j.size)∧(∀(i:Nat) x (q:Nat) c,(rows++ys)[i]?=some x→x.cells[q]?=some c→∃u,zs[i*j.size+q]?=some u∧AX w Z c u):=by
 obtain⟨hm,_,_,hB,hfy,news,n1,n2,n3,n4⟩:=hy.Fi hsz
 obtain⟨_,_,_,hA,hfr,olds,o1,o2,o3,o4⟩:=hr.Fi hsz
 obtain⟨i,i1,i2,i3,i4,i5⟩:=CT hti hj
 have ht:C.P.underlying t=some (.slice e):=by rw[(hti t q hq).1,hd]
 obtain⟨b,o,rfl⟩:=hB hne
 subst hm
 have hl:(rows++ys).length=rows.length+ys.length:=List.length_append
 have fin:∀v' w',w'.ownsRow w.heap.size e j.size v' (rows.length+ys.length) (olds++news)→w.grownBy w' none→(Builtin.append_ #[t,t] ty #[.slice A rows.length cap,.slice (some ⟨b,o,none⟩) ys.length c]).run C.P w= .ok v' w'→
   ∃v' w' zs,(Builtin.append_ #[t,t] ty #[.slice A rows.length cap,.slice (some ⟨b,o,none⟩) ys.length c]).run C.P w= .ok v' w'∧w'.ownsRow w.heap.size e j.size v' (rows++ys).length zs∧w.grownBy w' none∧
   (∀x∈rows++ys,x.fits ag j.size)∧(∀(i:Nat) x (q:Nat) c,(rows++ys)[i]?=some x→x.cells[q]?=some c→∃u,zs[i*j.size+q]?=some u∧AX w Z c u):=
  fun v' w' h1 h2 h3=>⟨v',w',olds++news,h3,by rw[hl];exact h1,h2,Fq hfr hfy,JC o1 hfy hfr o4 n4⟩
 cases A with
 | none=>
  have hr0:rows=[]:=by
   by_cases h:rows=[]
   ·exact h
   ·obtain⟨_,_,h'⟩:=hA h;cases h'
  subst hr0
  have hc0:=hnil rfl rfl
  subst hc0
  have ho:olds=[]:=List.eq_nil_of_length_eq_zero (by simpa using o1)
  subst ho
  obtain⟨v',w',hrun,r1,r2,_⟩:=run_append_own (P:=C.P) w w.heap.size t ty e i j.zero j.size j.bytes ht i1 i4 i2 i3 i5 hsz (.slice none 0 0) 0 [] (World.ownsRow_nil w _ _ _) ⟨b,o,none⟩ ys.length c news n1
   (fun j' u hu=>by have:=(n3 b o rfl j' u hu).1;simpa [BN] using this) n2 (by simpa using hmax) (by simpa using hbytes) (Nat.le_refl _)
  exact fin v' w' (by simpa using r1) (by simpa [Value.ownBlock] using r2) (by simpa using hrun)
 | some A=>
  by_cases hrn:rows=[]
  ·subst hrn
   have ho:olds=[]:=List.eq_nil_of_length_eq_zero (by simpa using o1)
   subst ho
   obtain⟨v',w',hrun,r1,r2⟩:=run_append_arg_grows (P:=C.P) w t ty e i j.zero j.size j.bytes ht i1 i4 i2 i3 i5 hsz A 0 cap [] (by simp) (by simp) ⟨b,o,none⟩ ys.length c news n1
    (fun j' u hu=>by have:=(n3 b o rfl j' u hu).1;simpa [BN] using this) (by subst hcap;have:ys.length≠0:=fun h=>hne (List.eq_nil_of_length_eq_zero h);simp;omega) (by simpa using hmax) (by simpa using hbytes)
   exact fin v' w' (by simpa using r1) r2 (by simpa using hrun)
  ·obtain⟨b',o',hA'⟩:=hA hrn
   cases hA'
   obtain⟨v',w',hrun,r1,r2⟩:=run_append_arg_grows (P:=C.P) w t ty e i j.zero j.size j.bytes ht i1 i4 i2 i3 i5 hsz ⟨b',o',none⟩ rows.length cap olds o1 (fun j' u hu=>by have:=(o3 b' o' rfl j' u hu).1;simpa [BN] using this) ⟨b,o,none⟩ ys.length c news n1
    (fun j' u hu=>by have:=(n3 b o rfl j' u hu).1;simpa [BN] using this) (by subst hcap;have:ys.length≠0:=fun h=>hne (List.eq_nil_of_length_eq_zero h);omega) hmax hbytes
   exact fin v' w' r1 r2 hrun
theorem L2 {C:Cx}{o:Oper}{fresh:Nat}{s:AN}{h:AE}{ag:Bool}{sz:Nat}{e:TypeId}{out:List D}(hsz:0<sz)
  (hr:∀F σs σh g a w,AR C F σs σh g a w→(∀t,Operand.tmp t∈o.op.operands.toList→σs t=s t)→
   ∃v' w' zs,(execOp a.eval o).run C.P w= .ok (.value v') w'∧w'.ownsRow w.heap.size e sz v' out.length zs∧w.grownBy w' none∧
   (∀x∈out,x.fits ag sz)∧(∀(i:Nat) x (q:Nat) c,out[i]?=some x→x.cells[q]?=some c→∃u,zs[i*sz+q]?=some u∧AX w (Al (zone g σh) C.X) c u)):
  A0 C o fresh s h ⟨.v (.c (.lst (.loc fresh) ag sz out)),[],[(.loc fresh,.tok out.length sz e)]⟩:=by
 rintro F σs σh a w Q ⟨g,R⟩ ho hrd hF hd
 obtain⟨v',w',zs,hrun,r1,r2,r3,r4⟩:=hr F σs σh g a w R ho
 unfold Oper.wp
 rw[hrun]
 obtain⟨R',hl⟩:=R.owned (n:=fresh) (hF 0 (by omega)) r2 hsz r1 r3 r4
 exact⟨_,(R'.put hd (v:=.v (.c (.lst (.loc fresh) ag sz out))) hl).AW (fun n hn=>⟨hn.1,fun e=>hn.2 (by omega)⟩)⟩
theorem Qg {C:Cx}{o:Oper}{fresh:Nat}{s:AN}{h:AE}{ag:Bool}{sz:Nat}{out:List D}
  (hr:∀F σs σh g a w,AR C F σs σh g a w→(∀t,Operand.tmp t∈o.op.operands.toList→σs t=s t)→
   ∃v' w',(execOp a.eval o).run C.P w= .ok (.value v') w'∧AR C F σs σh g a w'∧AX w' (Al (zone g σh) C.X) (.list ag sz out) v'):
  A0 C o fresh s h ⟨.v (.d (.list ag sz out)),[],[]⟩:=by
 rintro F σs σh a w Q ⟨g,R⟩ ho hrd hF hd
 obtain⟨v',w',hrun,R',hl⟩:=hr F σs σh g a w R ho
 unfold Oper.wp
 rw[hrun]
 exact⟨g,(R'.put hd (v:=.v (.d (.list ag sz out))) hl).AW (fun n hn=>hn.1)⟩
theorem CH {P:Program}{o:Oper}{a:Act}{x y:Operand}{t:TypeId}{w:World}{r:Result Value}(ho:o.op= .call {callee:=.builtin .append,args:=#[x,y],argTypes:=#[t,t]})
  {v:Value} {w':World} (h:(Builtin.append_ #[t,t] o.type #[a.eval x,a.eval y]).run P w= .ok v w'):(execOp a.eval o).run P w= .ok (.value v) w':=by
 simp[execOp,ho,resolve,invoke,builtin,h]
theorem NM (hti:Ao C.P ti) {t e:TypeId}{q j:TI}(hq:ti t=some q) (hd:q.desc= .slice e) (hj:ti e=some j) (hsz:0<j.size) (x y:Operand) (ho:o.op= .call {callee:=.builtin .append,args:=#[x,y],argTypes:=#[t,t]})
  {isNil:Bool} {rows ys:List D}
  (hx:∀{w:World} {Z:Ad} {g:AL} {h:AE} {v:Value},An w Z g h (AP ti s t x) v→(∃A,v= .slice A rows.length rows.length∧(isNil=true→rows=[]∧A=none))∧AX w Z (.list (AU j.desc) j.size rows) v)
  (hy:∀{w:World} {Z:Ad} {g:AL} {h:AE} {v:Value},An w Z g h (AP ti s t y) v→AX w Z (.list (AU j.desc) j.size ys) v)
  (hk:MY C.M (AU j.desc) j.size e j.bytes fresh isNil rows ys k):∃out,k out∧A0 C o fresh s h out:=by
 unfold MY at hk
 obtain⟨hlk,out,rfl,own,hk⟩:=hk
 obtain⟨hmax,hbytes⟩:=(C.M.lock_iff _).1 hlk
 have ht:C.P.underlying t=some (.slice e):=by rw[(hti t q hq).1,hd]
 obtain⟨i,i1,i2,i3,i4,i5⟩:=CT hti hj
 have opx:∀{F:Nat→Prop} {σs:AN} {σh:AE} {g:AL} {a:Act} {w:World} (R:AR C F σs σh g a w),(∀t,Operand.tmp t∈o.op.operands.toList→σs t=s t)→An w (Al (zone g σh) C.X) g σh (AP ti s t x) (a.eval x):=
  fun R hs=>AI ti t x R (s:=s) (fun k hk=>hs k (by subst hk;simp[ho,Op.operands,Call.operands]))
 have opy:∀{F:Nat→Prop} {σs:AN} {σh:AE} {g:AL} {a:Act} {w:World} (R:AR C F σs σh g a w),(∀t,Operand.tmp t∈o.op.operands.toList→σs t=s t)→An w (Al (zone g σh) C.X) g σh (AP ti s t y) (a.eval y):=
  fun R hs=>AI ti t y R (s:=s) (fun k hk=>hs k (by subst hk;simp[ho,Op.operands,Call.operands]))
 cases own with
 | true=>
  obtain⟨hne,hk⟩:=hk
  refine⟨_,hk,L2 hsz fun F σs σh g a w R hs=>?_⟩
  obtain⟨⟨A,hv,hnil⟩,hrx⟩:=hx (opx R hs)
  have hry:=hy (opy R hs)
  by_cases hys:ys=[]
  ·-- nil, and nothing
   subst hys
   rcases hne with hni | hni
   ·obtain⟨rfl,rfl⟩:=hnil hni
    generalize hyv:a.eval y=v at hry
    cases hry with
    | list _ _ _ B c b o' U hcap hmx hfit ha hc hr=>
     refine⟨.slice none 0 0,w,[],?_,?_,⟨rfl,rfl,rfl,Nat.le_refl _,fun _ _ _=>rfl⟩,by simp,by simp⟩
     ·refine CH (r:=.ok (.slice none 0 0) w) ho ?_
      rw[hv,hyv]
      exact Ci (P:=C.P) ht i1 (Nat.le_refl _)
     ·exact World.ownsRow_nil w _ _ _
   ·exact absurd rfl hni
  ·generalize hyv:a.eval y=v at hry
   cases hry0:v with
   | slice B m c=>
    subst hry0
    have hrx':=hrx
    rw[hv]at hrx'
    obtain⟨v',w',zs,h1,h2,h3,h4,h5⟩:=Sy hti (ty:=o.type) hq hd hj hsz hrx' rfl (fun h1 h2=>by rw[h1];rfl) hry hys hmax hbytes
    refine⟨v',w',zs,CH (r:=.ok v' w') ho (by rw[hv,hyv];exact h1),h2,h3,h4,h5⟩
   | _=>subst hry0;cases hry
 | false=>
  refine⟨_,hk,Qg fun F σs σh g a w R hs=>?_⟩
  obtain⟨⟨A,hv,hnil⟩,hrx⟩:=hx (opx R hs)
  have hry:=hy (opy R hs)
  by_cases hys:ys=[]
  ·subst hys
   generalize hyv:a.eval y=v at hry
   cases hry with
   | list _ _ _ B c b o' U hcap hmx hfit ha hc hr=>
    refine⟨a.eval x,w,?_,R,by simpa using hrx⟩
    refine CH (r:=.ok (a.eval x) w) ho ?_
    rw[hv,hyv]
    exact Ci (P:=C.P) ht i1 (Nat.le_refl _)
  ·generalize hyv:a.eval y=v at hry
   cases hry0:v with
   | slice B m c=>
    subst hry0
    have hrx':=hrx
    rw[hv]at hrx'
    obtain⟨v',w',zs,h1,h2,h3,h4,h5⟩:=Sy hti (ty:=o.type) hq hd hj hsz hrx' rfl (fun h1 h2=>by rw[h1];rfl) hry hys hmax hbytes
    obtain⟨r1,r2⟩:=R.plain h3 hsz h2 h4 h5
    exact⟨v',w',CH (r:=.ok v' w') ho (by rw[hv,hyv];exact h1),r1,r2⟩
   | _=>subst hry0;cases hry
end
end Go.AM
namespace Go.AM
open Go Go.RowKit
section
variable {C:Cx}{ti:Types}{o:Oper}{fresh:Nat}{s:AN}{h:AE}{k:Out→Prop}
theorem Qh (hti:Ao C.P ti) {t e:TypeId}{q j:TI}(hq:ti t=some q) (hd:q.desc= .slice e) (hj:ti e=some j) (hsz:0<j.size) (x y:Operand) (ho:o.op= .call {callee:=.builtin .append,args:=#[x,y],argTypes:=#[t,t]})
  {i:Nat} {rows ys:List D} (hx0:AP ti s t x= .v (.c (.lst (.loc i) (AU j.desc) j.size rows))) (hi:h (.loc i)=some (.tok rows.length j.size e))
  (hy:∀{w:World} {Z:Ad} {g:AL} {h:AE} {v:Value},An w Z g h (AP ti s t y) v→AX w Z (.list (AU j.desc) j.size ys) v)
  (hmax:rows.length+ys.length≤maxLen) (hbytes:(rows.length+ys.length)*j.bytes≤140737488355328):
  A0 C o fresh s h ⟨.v (.c (.lst (.loc i) (AU j.desc) j.size (rows++ys))),[.loc i],[(.loc i,.tok (rows++ys).length j.size e)]⟩:=by
 rintro F σs σh a w Q ⟨g,R⟩ hs hrd hF hdst
 have hσi:σh (.loc i)=some (.tok rows.length j.size e):=(hrd _ (by simp)).trans hi
 have hx:=AI ti t x R (s:=s) (fun k hk=>hs k (by subst hk;simp[ho,Op.operands,Call.operands]))
 rw[hx0]at hx
 obtain⟨hrx,hsl,htok⟩:=hx
 obtain⟨_,_,hv⟩:=htok _ _ _ hσi
 have hv:=hv rfl
 have hry:=hy (AI ti t y R (s:=s) (fun k hk=>hs k (by subst hk;simp[ho,Op.operands,Call.operands])))
 have ht:C.P.underlying t=some (.slice e):=by rw[(hti t q hq).1,hd]
 obtain⟨ii,i1,i2,i3,i4,i5⟩:=CT hti hj
 obtain⟨_,xs,hown⟩:=R.heap.objs _ _ hσi
 have hl:(rows++ys).length=rows.length+ys.length:=List.length_append
 -- the end: a run, and what it leaves
 have fin:∀v' w',(Builtin.append_ #[t,t] o.type #[a.eval x,a.eval y]).run C.P w= .ok v' w'→
   (AR C F σs (AJ σh (.loc i) (.tok (rows++ys).length j.size e)) (Ah g (.loc i) v') a w'∧
   Au w' (Al (zone (Ah g (.loc i) v') (AJ σh (.loc i) (.tok (rows++ys).length j.size e))) C.X) (Ah g (.loc i) v') (AJ σh (.loc i) (.tok (rows++ys).length j.size e)) (.lst (.loc i) (AU j.desc) j.size (rows++ys)) v')→
   o.wp C.P a w (fun a' w'=>Rel C (fun n=>F n∧¬(fresh≤n∧n<fresh+32)) (Bp σs o.dst (.v (.c (.lst (.loc i) (AU j.desc) j.size (rows++ys))))) (Aq σh [(.loc i,.tok (rows++ys).length j.size e)]) a' w') Q:=by
  rintro v' w' hrun ⟨R',hlst⟩
  unfold Oper.wp
  rw[CH (r:=.ok v' w') ho hrun]
  exact⟨_,(R'.put hdst (v:=.v (.c (.lst (.loc i) (AU j.desc) j.size (rows++ys)))) hlst).AW (fun n hn=>hn.1)⟩
 generalize hyv:a.eval y=vy at hry fin
 by_cases hys:ys=[]
 ·subst hys
  cases hry with
  | list _ _ _ B c b o' U hcap hmx hfit ha hc hr=>
   obtain⟨hlx,h2⟩:=hown
   have hrun:(Builtin.append_ #[t,t] o.type #[a.eval x,.slice B 0 c]).run C.P w= .ok (g (.loc i)) w:=by
    rw[hv]
    rcases h2 with⟨h3,h4⟩ | ⟨qb,cap,cur,h3,_,h5,h6,_⟩
    ·rw[h3];exact Ci (P:=C.P) ht i1 (Nat.le_refl _)
    ·rw[h3];exact Ci (P:=C.P) ht i1 h6
   refine fin (g (.loc i)) w hrun ?_
   have e1:AJ σh (.loc i) (.tok (rows++[]).length j.size e)=σh:=Pb (by simpa using hσi)
   rw[e1,Pc]
   refine⟨R,?_⟩
   rw[List.append_nil,←hv]
   exact⟨hrx,hsl,fun n sz' e' hn=>htok n sz' e' hn⟩
 ·cases vy with
  | slice B m c=>
   obtain⟨hm,_,_,hB,hfy,news,n1,n2,n3,n4⟩:=hry.Fi hsz
   obtain⟨bb,oo,rfl⟩:=hB hys
   subst hm
   have hmpos:0<ys.length:=by
    have:ys.length≠0:=fun h=>hys (List.eq_nil_of_length_eq_zero h)
    omega
   have hnews:∀(j':Nat) u,news[j']?=some u→w.cell? ((⟨bb,oo,none⟩:Addr).add j')=some u:=fun j' u hu=>by
    have:=(n3 bb oo rfl j' u hu).1
    simpa [BN] using this
   generalize hgi:g (.loc i)=gi at hown hv
   rw[hv]at hrx fin
   obtain⟨hlx,h2⟩:=hown
   rcases h2 with⟨rfl,h4⟩ | ⟨qb,cap,cur,rfl,_,h5,h6,h7,h8,h9⟩
   ·-- the list is nil
    have hr0:rows=[]:=List.eq_nil_of_length_eq_zero h4
    subst hr0
    obtain⟨v',w',hrun,r1,r2,_⟩:=run_append_own (P:=C.P) w w.heap.size t o.type e ii j.zero j.size j.bytes ht i1 i4 i2 i3 i5 hsz (.slice none 0 0) 0 [] (World.ownsRow_nil w _ _ _) ⟨bb,oo,none⟩ ys.length c news n1 hnews n2 (by simpa using hmax) (by simpa using hbytes) (Nat.le_refl _)
    obtain⟨g1,g2,g3,g4,g5⟩:=r2
    refine fin v' w' (by simpa using hrun) (R.Ip hsz hσi (zs:=news) ⟨g1,g2,g3,g4⟩ (fun b hb _=>g5 b hb (by simp[Value.ownBlock])) (fun b o u hu _=>?_) ?_ (fun b hb=>.inr ?_) (by simp;omega) (by simpa using hfy) (by simpa using n4))
    ·exact (World.cell?_of_block (a:=⟨b,o,none⟩) (g5 b (World.block_lt_of_cell? w ⟨b,o,none⟩ hu) (by simp[Value.ownBlock]))).trans hu
    ·obtain⟨p1,p2⟩:=r1
     refine⟨by simpa using p1,?_⟩
     rcases p2 with p2 | ⟨q',c',cu',p3,_,p4⟩
     ·exact .inl (by simpa using p2)
     ·exact .inr ⟨q',c',cu',by simpa using p3,Nat.zero_le _,by simpa using p4⟩
    ·rcases r1.2 with⟨p3,_⟩ | ⟨q',c',cu',p3,p4,_⟩
     ·rw[p3]at hb;simp[blk]at hb
     ·rw[p3]at hb;simp[blk]at hb;omega
   ·-- a row
    obtain⟨_,_,_,hA,hfr,olds,o1,o2,o3,o4⟩:=hrx.Fi hsz
    have hxs:∀(k:Nat) u,olds[k]?=some u→xs[k]?=some u:=by
     intro k u hu
     have hc:=(o3 qb 0 rfl k u hu).1
     have hk:=(List.getElem?_eq_some_iff.1 hu).1
     rw[o1]at hk
     have:cur[k]?=some u:=by simpa [World.cell?,h5] using hc
     rw[←h9,List.getElem?_take,if_pos hk]
     simpa using this
    have o4':∀(i:Nat) x (q:Nat) c,rows[i]?=some x→x.cells[q]?=some c→∃u,xs[i*j.size+q]?=some u∧AX w (Al (zone g σh) C.X) c u:=by
     intro i x q c hx hq
     obtain⟨u,hu,hr⟩:=o4 i x q c hx hq
     exact⟨u,hxs _ u hu,hr⟩
    have hrow:=JC hlx hfy hfr o4' n4
    have hfit:=Fq hfr hfy
    have hownw:w.ownsRow 0 e j.size (.slice (some ⟨qb,0,none⟩) rows.length cap) rows.length xs:=⟨hlx,.inr ⟨qb,cap,cur,rfl,Nat.zero_le _,h5,h6,h7,h8,h9⟩⟩
    by_cases hroom:rows.length+ys.length≤cap
    ·-- in place
     obtain⟨v',w',hrun,r1,r2,_⟩:=run_append_own (P:=C.P) w 0 t o.type e ii j.zero j.size j.bytes ht i1 i4 i2 i3 i5 hsz _ rows.length xs hownw ⟨bb,oo,none⟩ ys.length c news n1 hnews n2 hmax hbytes (Nat.zero_le _)
     have hrun2:=run_append_room_cells (P:=C.P) w t o.type e ii ht i1 qb 0 rows.length cap ⟨bb,oo,none⟩ ys.length c news (by rw[i2];exact n1) hnews n2 hroom
      (fun k hk=>by
       have hlt:rows.length*ii.size+k<cur.size:=by
        rw[h8,i2]
        rw[n1]at hk
        have:=Nat.mul_le_mul_right j.size hroom
        rw[Nat.add_mul]at this
        omega
       simp[World.cell?,h5,hlt])
      (fun k hk=>by simp[World.frozen?,h5])
     rw[hrun]at hrun2
     obtain⟨rfl,rfl⟩:v'= .slice (some ⟨qb,0,none⟩) (rows.length+ys.length) cap∧w'=w.setCells qb (0+rows.length*ii.size) news:=by
      injection hrun2 with e1 e2
      exact⟨e1,e2⟩
     obtain⟨g1,g2,g3,g4,g5⟩:=r2
     refine fin _ _ hrun (R.Ip hsz hσi (zs:=xs++news) ⟨g1,g2,g3,g4⟩ (fun b hb hne=>g5 b hb (by rw[hgi]at hne;simpa [Value.ownBlock,blk,eq_comm] using hne)) (fun b o' u hu hz=>?_) (by rw[hl];exact r1) (fun b hb=>.inl ?_) (by omega) hfit hrow)
     ·have:=World.cell?_setCells_out qb news (0+rows.length*ii.size) w ⟨b,o',none⟩ (fun hb _=>.inl ?_)
      ·rw[this];exact hu
      ·rw[hgi]at hz
       simp only at hb
       subst hb
       rw[i2,Nat.zero_add]
       by_cases hlo:o'<rows.length*j.size
       ·exact hlo
       ·exact absurd ⟨rfl,by omega⟩ hz
     ·rw[hgi];exact hb
    ·-- a new row
     obtain⟨v',w',hrun,r1,r2⟩:=run_append_arg_grows (P:=C.P) w t o.type e ii j.zero j.size j.bytes ht i1 i4 i2 i3 i5 hsz ⟨qb,0,none⟩ rows.length cap xs hlx
      (fun k u hu=>by
       have hk:=(List.getElem?_eq_some_iff.1 hu).1
       rw[←h9,List.getElem?_take]at hu
       split at hu
       ·have hu:cur[k]?=some u:=by simpa using hu
        simp[BN,World.cell?,h5,hu]
       ·cases hu)
      ⟨bb,oo,none⟩ ys.length c news n1 hnews (by omega) hmax hbytes
     obtain⟨g1,g2,g3,g4,g5⟩:=r2
     refine fin v' w' hrun (R.Ip hsz hσi (zs:=xs++news) ⟨g1,g2,g3,g4⟩ (fun b hb _=>g5 b hb (by simp)) (fun b o' u hu _=>?_) ?_ (fun b hb=>.inr ?_) (by omega) hfit hrow)
     ·exact (World.cell?_of_block (a:=⟨b,o',none⟩) (g5 b (World.block_lt_of_cell? w ⟨b,o',none⟩ hu) (by simp))).trans hu
     ·obtain⟨p1,p2⟩:=r1
      rw[hl]
      refine⟨p1,?_⟩
      rcases p2 with p2 | ⟨q',c',cu',p3,_,p4⟩
      ·exact .inl p2
      ·exact .inr ⟨q',c',cu',p3,Nat.zero_le _,p4⟩
     ·rcases r1.2 with⟨p3,_⟩ | ⟨q',c',cu',p3,p4,_⟩
      ·rw[p3]at hb;simp[blk]at hb
      ·rw[p3]at hb;simp[blk]at hb;omega
  | _=>cases hry
theorem Wo (hti:Ao C.P ti) (t:TypeId) (x y:Operand) (ho:o.op= .call {callee:=.builtin .append,args:=#[x,y],argTypes:=#[t,t]}) (hk:GR C.M ti t (AP ti s t x) (AP ti s t y) fresh h k):∃out,k out∧A0 C o fresh s h out:=by
 unfold GR at hk
 obtain⟨q,hq,hk⟩:=AF.1 hk
 split at hk
 ·rename_i e hd
  obtain⟨j,hj,hk⟩:=AF.1 hk
  replace hk:=AA.1 hk
  obtain⟨hsz,hk⟩:=hk
  have hsz:0<j.size:=by simp[Nat.blt]at hsz;omega
  replace hk:=D4 hk
  obtain⟨ag,sz,ys,hy,hk⟩:=hk
  replace hk:=AA.1 hk
  obtain⟨hag,hk⟩:=hk
  replace hk:=AA.1 hk
  obtain⟨hs2,hk⟩:=hk
  have hag:AU j.desc=ag:=by simpa using hag
  have hs2:sz=j.size:=Nat.eq_of_beq_eq_true hs2
  subst hag
  subst hs2
  split at hk
  ·rename_i ag' sz' hop
   refine NM hti hq hd hj hsz x y ho (fun r=>?_) hy hk
   rw[hop]at r
   rw[show _=_ from r]
   exact⟨⟨none,rfl,fun _=>⟨rfl,rfl⟩⟩,FD _ _⟩
  ·rename_i ag' sz' rows hop
   replace hk:=AA.1 hk
   obtain⟨ha',hk⟩:=hk
   replace hk:=AA.1 hk
   obtain⟨hs',hk⟩:=hk
   have ha':AU j.desc=ag':=by simpa using ha'
   have hs':sz'=j.size:=Nat.eq_of_beq_eq_true hs'
   subst ha'
   subst hs'
   refine NM hti hq hd hj hsz x y ho (fun r=>?_) hy hk
   rw[hop]at r
   obtain⟨r1,A,r2⟩:=r
   exact⟨⟨A,r2,fun h=>by cases h⟩,r1⟩
  ·rename_i i ag' sz' rows hop
   replace hk:=AA.1 hk
   obtain⟨ha',hk⟩:=hk
   replace hk:=AA.1 hk
   obtain⟨hs',hk⟩:=hk
   have ha':AU j.desc=ag':=by simpa using ha'
   have hs':sz'=j.size:=Nat.eq_of_beq_eq_true hs'
   subst ha'
   subst hs'
   split at hk
   ·rename_i n sz2 e2 hi
    replace hk:=AA.1 hk
    obtain⟨h1,hk⟩:=hk
    replace hk:=AA.1 hk
    obtain⟨h2,rfl,hlk,out,rfl,hk⟩:=hk
    obtain⟨h3,h4⟩:=(C.M.lock_iff _).1 hlk
    have h1:=Nat.eq_of_beq_eq_true h1
    have h2:=Nat.eq_of_beq_eq_true h2
    subst h1
    subst h2
    exact⟨_,hk,Qh hti hq hd hj hsz x y ho hop hi hy h3 h4⟩
   ·exact hk.elim
  ·exact hk.elim
 ·exact hk.elim
end
end Go.AM
namespace Go.AM
open Go Go.RowKit
theorem K2 {P:Program}(w:World) (t ty e e0:TypeId) (i:TypeInfo) (ht:P.underlying t=some (.slice e)) (hi:P.info? e=some i)
  (g sLen sCap:Nat) (cur:Array Value) (hg:w.heap[g]?=some (.cells cur e0 (0,0)))
  (a:Addr) (m c:Nat) (news:List Value) (hl:news.length=m*i.size) (hnews:∀(j:Nat) u,news[j]?=some u→w.cell? (a.add j)=some u) (h1:∀u∈news,u.oneCell'=true)
  (hroom:sLen+m≤sCap) (hfit:sLen*i.size+news.length≤cur.size):
  (Builtin.append_ #[t,t] ty #[.slice (some ⟨g,0,none⟩) sLen sCap,.slice (some a) m c]).run P w=
   .ok (.slice (some ⟨g,0,none⟩) (sLen+m) sCap) (w.setRow g (cur.toList.take (sLen*i.size)++news++cur.toList.drop (sLen*i.size+news.length)).toArray):=by
 have hf:=run_firstCells_some (P:=P) w i.size m a m c news hl hnews
 have hst:=run_storeCells_at P g (sLen*i.size) e0 news 0 cur w hg (by simpa using hfit) h1
 simp only[Nat.add_zero]at hst
 simp[Builtin.append_,run_underlying ht,sizeOf,typeInfo,hi,Builtin.lenOf,hroom,hf,Addr.add_lit,hst]
theorem FH {P:Program}{ti:Types}(hti:Ao P ti) {t ty e:TypeId}{q j:TI}(hq:ti t=some q) (hd:q.desc= .slice e) (hj:ti e=some j) (hsz:0<j.size) {w:World}{v:Value}{n:Nat}{xs:List Value}
  (hx:Holds w .row j.size v n xs) {B:Option Addr} {m c:Nat} {news:List Value} (n1:news.length=m*j.size)
  (hB:0<m→∃bb oo,B=some ⟨bb,oo,none⟩∧∀(k:Nat) u,news[k]?=some u→w.cell? ⟨bb,oo+k,none⟩=some u) (n2:∀u∈news,u.oneCell'=true)
  (hmax:n+m≤maxLen) (hbytes:(n+m)*j.bytes≤140737488355328):
  ∃v' w',(Builtin.append_ #[t,t] ty #[v,.slice B m c]).run P w= .ok v' w'∧Holds w' .row j.size v' (n+m) (xs++news)∧(w'.os=w.os∧w'.tape=w.tape∧w'.output=w.output∧w.heap.size≤w'.heap.size)∧
   (∀b,b<w.heap.size→blk v≠some b→w'.heap[b]?=w.heap[b]?)∧(∀b,blk v'=some b→blk v=some b∨w.heap.size≤b):=by
 obtain⟨_,ii,i1,i2,i3,i4,i5,_⟩:=hti e j hj
 have i4':=i4
 have ht:P.underlying t=some (.slice e):=by rw[(hti t q hq).1,hd]
 by_cases hm:m=0
 ·subst hm
  have hn:news=[]:=List.eq_nil_of_length_eq_zero (by simpa using n1)
  subst hn
  obtain⟨A,cap,hv,hcap,_⟩:=hx.row
  subst hv
  exact⟨_,w,Ci (P:=P) ht i1 hcap,by simpa using hx,⟨rfl,rfl,rfl,Nat.le_refl _⟩,fun _ _ _=>rfl,fun _ h=>.inl h⟩
 ·obtain⟨bb,oo,rfl,hnews⟩:=hB (by omega)
  have hnews':∀(k:Nat) u,news[k]?=some u→w.cell? ((⟨bb,oo,none⟩:Addr).add k)=some u:=fun k u hu=>by rw[BN];exact hnews k u hu
  obtain⟨e0,hx1,hx2⟩:=hx
  have big:∀{v':Value} {w':World},w'.ownsRow w.heap.size e j.size v' (n+m) (xs++news)→Holds w' .row j.size v' (n+m) (xs++news)∧(∀b,blk v'=some b→blk v=some b∨w.heap.size≤b):=by
   rintro v' w' ⟨p1,p2⟩
   rcases p2 with⟨p3,p4⟩ | ⟨qb,cap,cur,p3,p4,p5⟩
   ·exact⟨⟨e,p1,.inl ⟨p3,p4⟩⟩,fun b hb=>by rw[p3]at hb;simp[blk]at hb⟩
   ·exact⟨⟨e,p1,.inr ⟨qb,cap,cur,p3,Nat.zero_le _,p5⟩⟩,fun b hb=>by rw[p3]at hb;simp[blk]at hb;exact .inr (by omega)⟩
  rcases hx2 with⟨rfl,h4⟩ | ⟨qb,cap,cur,rfl,_,h5,h6,h7,h8,h9⟩
  ·subst h4
   have hx0:xs=[]:=List.eq_nil_of_length_eq_zero (by simpa using hx1)
   subst hx0
   obtain⟨v',w',hrun,r1,r2,_⟩:=run_append_own (P:=P) w w.heap.size t ty e ii j.zero j.size j.bytes ht i1 i4 i2 i3 i5 hsz (.slice none 0 0) 0 [] (World.ownsRow_nil w _ _ _) ⟨bb,oo,none⟩ m c news n1 hnews' n2 hmax hbytes (Nat.le_refl _)
   obtain⟨g1,g2,g3,g4,g5⟩:=r2
   obtain⟨b1,b2⟩:=big r1
   exact⟨v',w',hrun,b1,⟨g1,g2,g3,g4⟩,fun b hb _=>g5 b hb (by simp[Value.ownBlock]),b2⟩
  ·by_cases hroom:n+m≤cap
   ·have hle:=Nat.mul_le_mul_right j.size hroom
    rw[Nat.add_mul]at hle
    have hrun:=K2 (P:=P) w t ty e e0 ii ht i1 qb n cap cur h5 ⟨bb,oo,none⟩ m c news (by rw[i2];exact n1) hnews' n2 hroom (by rw[i2,h8,n1];exact hle)
    refine⟨_,_,hrun,⟨e0,?_,.inr ⟨qb,cap,_,rfl,Nat.zero_le _,setRow_heap w qb cur _ e0 _ h5,hroom,h7,?_,?_⟩⟩,⟨rfl,rfl,rfl,by simp⟩,fun b _ hb=>setRow_other w qb b _ (fun e=>hb (by rw[e];rfl)),fun b hb=>.inl hb⟩
    ·rw[List.length_append,hx1,n1,Nat.add_mul]
    ·simp only[List.size_toArray,List.length_append,List.length_take,List.length_drop,Array.length_toList]
     rw[i2,n1]
     omega
    ·have e1:(xs++news).length=(n+m)*j.size:=by rw[List.length_append,hx1,n1,Nat.add_mul]
     rw[i2,h9,←e1]
     exact List.take_left
   ·obtain⟨v',w',hrun,r1,r2⟩:=run_append_arg_grows (P:=P) w t ty e ii j.zero j.size j.bytes ht i1 i4 i2 i3 i5 hsz ⟨qb,0,none⟩ n cap xs hx1
     (fun k u hu=>by
      have hk:=(List.getElem?_eq_some_iff.1 hu).1
      rw[←h9,List.getElem?_take]at hu
      split at hu
      ·have hu:cur[k]?=some u:=by simpa using hu
       simp[BN,World.cell?,h5,hu]
      ·cases hu)
     ⟨bb,oo,none⟩ m c news n1 hnews' (by omega) hmax hbytes
    obtain⟨g1,g2,g3,g4,g5⟩:=r2
    obtain⟨b1,b2⟩:=big r1
    exact⟨v',w',hrun,b1,⟨g1,g2,g3,g4⟩,fun b hb _=>g5 b hb (by simp),b2⟩
end Go.AM
namespace Go.AM
open Go Go.RowKit
structure Ej (w:World) (ag:Bool) (sz:Nat) (rows:List D) (xs:List Value) (T:Nat→Nat→Nat→Prop) (S:Nat→Prop):Prop where
 fits:∀r∈rows,r.fits ag sz
 len:xs.length=rows.length*sz
 cell:∀(i:Nat) r (j:Nat) c,rows[i]?=some r→r.cells[j]?=some c→∃u,xs[i*sz+j]?=some u∧CD w c u (T i j)
 bound:∀i j b,T i j b→∃r c,rows[i]?=some r∧r.cells[j]?=some c
 inj:∀i j i' j' b,T i j b→T i' j' b→i=i'∧j=j'
 sub:∀i j b,T i j b→S b
theorem Ej.nil (w:World) (ag:Bool) (sz:Nat):Ej w ag sz [] [] (fun _ _ _=>False) (fun _=>False):=
 ⟨by simp,by simp,by simp,by simp,by simp,by simp⟩
theorem Ej.append {w:World}{ag:Bool}{sz:Nat}{rows ys:List D}{xs zs:List Value}{T T':Nat→Nat→Nat→Prop}{S S':Nat→Prop}(h:Ej w ag sz rows xs T S) (h':Ej w ag sz ys zs T' S') (hd:∀b,S b→S' b→False):
  Ej w ag sz (rows++ys) (xs++zs) (fun i j b=>if i<rows.length then T i j b else T' (i - rows.length) j b) (fun b=>S b∨S' b):=by
 refine⟨Fq h.fits h'.fits,by rw[List.length_append,List.length_append,h.len,h'.len,Nat.add_mul],fun i r j c hi hj=>?_,fun i j b hb=>?_,fun i j i' j' b hb hb'=>?_,fun i j b hb=>?_⟩
 ·by_cases hl:i<rows.length
  ·rw[List.getElem?_append_left hl]at hi
   obtain⟨u,hu,hr⟩:=h.cell i r j c hi hj
   refine⟨u,by rw[List.getElem?_append_left (List.getElem?_eq_some_iff.1 hu).1];exact hu,?_⟩
   simp only[hl,if_true]
   exact hr
  ·rw[List.getElem?_append_right (by omega)]at hi
   obtain⟨u,hu,hr⟩:=h'.cell _ r j c hi hj
   have hle:rows.length*sz≤i*sz:=Nat.mul_le_mul_right _ (by omega)
   refine⟨u,?_,?_⟩
   ·rw[List.getElem?_append_right (by rw[h.len];omega),←hu]
    congr 1
    rw[h.len,Nat.sub_mul]
    omega
   ·simp only[hl,if_false]
    exact hr
 ·skip
  split at hb
  ·rename_i hl
   obtain⟨r,c,h1,h2⟩:=h.bound i j b hb
   exact⟨r,c,by rw[List.getElem?_append_left hl];exact h1,h2⟩
  ·rename_i hl
   obtain⟨r,c,h1,h2⟩:=h'.bound _ j b hb
   exact⟨r,c,by rw[List.getElem?_append_right (by omega)];exact h1,h2⟩
 ·skip
  split at hb<;>split at hb'
  ·exact h.inj _ _ _ _ b hb hb'
  ·exact (hd b (h.sub _ _ b hb) (h'.sub _ _ b hb')).elim
  ·exact (hd b (h.sub _ _ b hb') (h'.sub _ _ b hb)).elim
  ·obtain⟨e1,e2⟩:=h'.inj _ _ _ _ b hb hb'
   exact⟨by omega,e2⟩
 ·skip
  split at hb
  ·exact .inl (h.sub _ _ b hb)
  ·exact .inr (h'.sub _ _ b hb)
theorem Ej.same {w w':World}{ag:Bool}{sz:Nat}{rows:List D}{xs:List Value}{T:Nat→Nat→Nat→Prop}{S:Nat→Prop}(h:Ej w ag sz rows xs T S) (hb:∀b,S b→w'.heap[b]?=w.heap[b]?):Ej w' ag sz rows xs T S:=
 {h with cell:=fun i r j c hi hj=>let ⟨u,hu,hr⟩:=h.cell i r j c hi hj;⟨u,hu,hr.same fun b hb'=>hb b (h.sub i j b hb')⟩}
section
variable {C:Cx}{F:Nat→Prop}{s:AN}{h:AE}{g:AL}{a:Act}{w:World}
theorem Ej.eG {X:Ad}(R:C9 w X g h) {i:Id}{kd:Kd}{ag:Bool}{sz:Nat}{rows:List D}(hi:h i=some (.tree kd ag sz rows none)) (hkf:kd.Je=false:=by rfl):
  ∃xs T,Holds w kd sz (gval (g i)) rows.length xs∧Ej w ag sz rows xs T (fun b=>BC (g i) b)∧(∀i' j b,T i' j b→blk (gval (g i))≠some b)∧(∀b,blk (gval (g i))=some b→BC (g i) b)∧0<sz:=by
 obtain⟨ht,h0,hf,xs,hx,_,U,T,h1,h2,h3,h4,h5⟩:=R.objs i _ hi
 refine⟨xs,T,hx,⟨hf,hx.len,fun i r j c hr hj=>⟨_,(h1 i r j c (fun _ _ h=>by cases h) hr hj).1,(Cs.own hkf).1 (h1 i r j c (fun _ _ h=>by cases h) hr hj).2⟩,fun i j b hb=>(h2 i j b hb).2,h4,fun i j b hb=>(h5 b).2 (.inr ⟨i,j,hb⟩)⟩,h3,fun b hb=>(h5 b).2 (.inl hb),h0⟩
theorem Ej.of_closed {X Z:Ad}(R:C9 w X g h) {ag:Bool}{sz n:Nat}{cs:List CV}{ds:List D}{iss:List (List Id)}{vs:List Value}(hsz:0<sz) (hag:ag=false→sz=1) (hn:cs.length=n*sz)
  (hds:ds.length=cs.length) (his:iss.length=cs.length) (hvs:vs.length=cs.length) (hnd:iss.flatten.Nodup)
  (hc:∀(q:Nat) c d is,cs[q]?=some c→ds[q]?=some d→iss[q]?=some is→Bg h c d is) (hr:∀(q:Nat) c u,cs[q]?=some c→vs[q]?=some u→Au w Z g h c u):
  Ej w ag sz (rowsOf ag sz n ds) vs (fun i j b=>i<n∧j<sz∧∃is,iss[i*sz+j]?=some is∧∃x∈is,BC (g x) b) (fun b=>∃x∈iss.flatten,BC (g x) b):=by
 have bound:∀i j,i<n→j<sz→i*sz+j<cs.length:=by
  intro i j hi hj
  rw[hn]
  have:=Nat.mul_le_mul_right sz (show i+1≤n from hi)
  rw[Nat.add_mul]at this
  omega
 have own:∀q,q<cs.length→∃d is u,ds[q]?=some d∧iss[q]?=some is∧vs[q]?=some u∧CD w d u (fun b=>∃x∈is,BC (g x) b):=by
  intro q hq
  have p1:cs[q]?=some cs[q]:=by simp
  have p2:ds[q]?=some (ds[q]'(by omega)):=List.getElem?_eq_getElem (by omega)
  have p3:iss[q]?=some (iss[q]'(by omega)):=List.getElem?_eq_getElem (by omega)
  have p4:vs[q]?=some (vs[q]'(by omega)):=List.getElem?_eq_getElem (by omega)
  exact⟨_,_,_,p2,p3,p4,(hc q _ _ _ p1 p2 p3).rel R ((List.sublist_flatten_of_mem (List.mem_of_getElem? p3)).nodup hnd) (hr q _ _ p1 p4)⟩
 have hda:∀d∈ds,d.isAgg=false:=by
  intro d hd
  obtain⟨q,hq⟩:=List.mem_iff_getElem?.1 hd
  obtain⟨d',_,_,e1,_,_,ho⟩:=own q (by rw[←hds];exact (List.getElem?_eq_some_iff.1 hq).1)
  rw[hq]at e1
  cases e1
  exact ho.isAgg
 have row:∀i,i<n→(rowOf ag ((ds.drop (i*sz)).take sz)).cells=(ds.drop (i*sz)).take sz∧(rowOf ag ((ds.drop (i*sz)).take sz)).isAgg=ag:=by
  intro i hi
  refine EV (fun d hd=>hda d (List.mem_of_mem_drop (List.mem_of_mem_take hd))) (fun e=>?_)
  have:=bound i (sz - 1) hi (by omega)
  have:=hag e
  simp
  omega
 refine⟨fun r hr'=>?_,by rw[hvs,hn,D2],fun i r j c hi hj=>?_,fun i j b hb=>?_,fun i j i' j' b hb hb'=>?_,fun i j b hb=>?_⟩
 ·obtain⟨i,hi⟩:=List.mem_iff_getElem?.1 hr'
  obtain⟨hlt,rfl⟩:=D1 hi
  obtain⟨r1,r2⟩:=row i hlt
  have:=bound i (sz - 1) hlt (by omega)
  exact⟨r2,by rw[r1];simp;omega,by rw[r1];exact fun d hd=>hda d (List.mem_of_mem_drop (List.mem_of_mem_take hd))⟩
 ·obtain⟨hlt,rfl⟩:=D1 hi
  rw[(row i hlt).1,List.getElem?_take]at hj
  split at hj
  ·rename_i hjs
   rw[List.getElem?_drop]at hj
   obtain⟨d,is,u,e1,e2,e3,ho⟩:=own (i*sz+j) (bound i j hlt hjs)
   rw[hj]at e1
   cases e1
   refine⟨u,e3,ho.congr fun b=>⟨fun hx=>⟨hlt,hjs,is,e2,hx⟩,fun⟨_,_,is',h2,hx⟩=>?_⟩⟩
   rw[e2]at h2
   cases h2
   exact hx
  ·cases hj
 ·obtain⟨hi,hj,is,e2,_⟩:=hb
  have hlt:=bound i j hi hj
  refine⟨_,ds[i*sz+j]'(by omega),by simp[rowsOf,hi];rfl,?_⟩
  rw[(row i hi).1,List.getElem?_take,if_pos hj,List.getElem?_drop]
  simp
 ·obtain⟨hi,hj,is,e2,x,hx,hb⟩:=hb
  obtain⟨hi',hj',is',e2',x',hx',hb'⟩:=hb'
  have wh:∀{q:Nat} {is:List Id} {x:Id},iss[q]?=some is→x∈is→∃ob,h x=some ob∧B7 ob:=by
   intro q is x hq hx
   have hlt:=(List.getElem?_eq_some_iff.1 hq).1
   exact (hc q (cs[q]'(by omega)) (ds[q]'(by omega)) is (List.getElem?_eq_getElem (by omega)) (List.getElem?_eq_getElem (by omega)) hq).whole x hx
  obtain⟨ob,o1,o2⟩:=wh e2 hx
  obtain⟨ob',o1',o2'⟩:=wh e2' hx'
  have:=R.sep x x' ob ob' b o1 o1' (o2.F7 hb) (o2'.F7 hb')
  subst this
  have hq:=NG hnd e2 e2' hx hx'
  have e:i=i':=by
   rcases Nat.lt_trichotomy i i' with hl | hl | hl
   ·have:=Nat.mul_le_mul_right sz (show i+1≤i' from hl)
    rw[Nat.add_mul]at this
    omega
   ·exact hl
   ·have:=Nat.mul_le_mul_right sz (show i'+1≤i from hl)
    rw[Nat.add_mul]at this
    omega
  subst e
  exact⟨rfl,by omega⟩
 ·obtain⟨_,_,is,e2,x,hx,hb⟩:=hb
  exact⟨x,List.mem_flatten.2 ⟨is,List.mem_of_getElem? e2,hx⟩,hb⟩
theorem AR.SR (R:AR C F s h g a w) {T0:List Id}(hT:∀i∈T0,∃ob,h i=some ob∧B7 ob) {n:Nat}(hf:F n) {w':World}
  (hos:w'.os=w.os∧w'.tape=w.tape∧w'.output=w.output∧w.heap.size≤w'.heap.size)
  (hblk:∀b,b<w.heap.size→(∀i∈T0,¬BC (g i) b)→w'.heap[b]?=w.heap[b]?)
  {kd:Kd} {ag:Bool} {sz:Nat} {out:List D} {v:Value} {zs:List Value} {T:Nat→Nat→Nat→Prop} {S:Nat→Prop} (hsz:0<sz) (hx:Holds w' kd sz v out.length zs) (ho:Ej w' ag sz out zs T S)
  (hS:∀b,S b→∃i∈T0,BC (g i) b) (hv:∀b,blk v=some b→(∃i∈T0,BC (g i) b)∨w.heap.size≤b) (hdis:∀i j b,T i j b→blk v≠some b) (hkf:kd.Je=false:=by rfl):
  ∃g',AR C (fun k=>F k∧k≠n) s (AJ (Aq h (Aa T0)) (.loc n) (.tree kd ag sz out none)) g' a w'∧
   Au w' (Al (zone g' (AJ (Aq h (Aa T0)) (.loc n) (.tree kd ag sz out none))) C.X) g' (AJ (Aq h (Aa T0)) (.loc n) (.tree kd ag sz out none)) (.ow (.loc n)) v:=by
 obtain⟨l,hl⟩:=BC.Vi (g:=g) T0
 refine R.SQ hT hf hos hblk (fun b=>blk v=some b∨∃i j,T i j b) ((blk v).toList++l) (fun b hb=>?_) (fun b hb=>?_) hx.BW (fun Z' g' h' gv gt gg gb _=>?_)
 ·rcases hb with hb | ⟨i,j,hb⟩
  ·exact List.mem_append.2 (.inl (by simp[hb]))
  ·obtain⟨x,hx1,hx2⟩:=hS b (ho.sub i j b hb)
   exact List.mem_append.2 (.inr (hl x hx1 b hx2))
 ·rcases hb with hb | ⟨i,j,hb⟩
  ·exact hv b hb
  ·exact .inl (hS b (ho.sub i j b hb))
 ·subst gg
  let U:Nat→Nat→Value:=fun i j=>zs.getD (i*sz+j) undef
  refine⟨gt,hsz,ho.fits,zs,hx,(fun _ _ h=>by cases h),U,T,fun i r j c _ hr hj=>?_,fun i j b hb=>⟨fun _ _ h=>(by cases h),ho.bound i j b hb⟩,hdis,ho.inj,gb⟩
  obtain⟨u,hu,hrel⟩:=ho.cell i r j c hr hj
  have e1:U i j=u:=by simp[U,hu]
  rw[e1]
  exact⟨hu,(Cs.own hkf).2 hrel⟩
end
end Go.AM
namespace Go.AM
open Go Go.RowKit
def HV (ds:List D):List CV:=(ds.flatMap D.cells).map CV.d
theorem Wp {ds:List D}{sz:Nat}(h:∀d∈ds,d.cells.length=sz):(HV ds).length=ds.length*sz:=by
 unfold HV
 rw[List.length_map]
 induction ds with
 | nil=>simp
 | cons d ds ih=>simp[h d (by simp),ih (fun x hx=>h x (by simp[hx])),Nat.add_mul];omega
theorem Pd {ds:List D}{sz:Nat}(h:∀d∈ds,d.cells.length=sz):∀(i:Nat) x (j:Nat) c,ds[i]?=some x→x.cells[j]?=some c→(HV ds)[i*sz+j]?=some (.d c):=by
 induction ds with
 | nil=>intro i x j c hx;simp at hx
 | cons d ds ih=>
  intro i x j c hx hj
  have hd:=h d (by simp)
  match i with
  | 0=>
   simp at hx
   subst hx
   have hlt:=(List.getElem?_eq_some_iff.1 hj).1
   simp only[HV,List.flatMap_cons,List.map_append,Nat.zero_mul,Nat.zero_add]
   rw[List.getElem?_append_left (by simpa using hlt)]
   simp[hj]
  | i+1=>
   simp at hx
   simp only[HV,List.flatMap_cons,List.map_append]
   rw[List.getElem?_append_right (by simp[hd,Nat.add_mul];omega)]
   have:=ih (fun x hx=>h x (by simp[hx])) i x j c hx hj
   rw[←this]
   simp only[HV,List.length_map,hd]
   congr 1
   rw[Nat.add_mul]
   omega
theorem Sz {ti:Types}{s:AN}{e:TypeId}{ag:Bool}{sz:Nat}{k:List D→Prop}:
  ∀(L:List (Nat×Operand)) (n:Nat) (k:List D→Prop),PQ ti s e ag sz n L k→∃ds,k ds∧ds.length=L.length∧(∀d∈ds,d.isAgg=ag∧d.cells.length=sz)∧
   ∀(w:World) (Z:Ad) (g:AL) (h:AE) (ev:Operand→Value),(∀t i p,(i,p)∈L→An w Z g h (AP ti s t p) (ev p))→
    (∀(i:Nat) d,ds[i]?=some d→∃v,AX w Z d v)∧
    ∀(cs:List CV) (vs:Array Value),Fo w Z g h cs vs→(n+L.length)*sz≤cs.length→
    ∃vs',Instr.fill (fun i=>some (i*sz,sz)) vs (L.map fun x=>(x.1,ev x.2))=some vs'∧Fo w Z g h (cs.take (n*sz)++HV ds++cs.drop ((n+L.length)*sz)) vs'
 | [],n,k,hk=>⟨[],hk,rfl,by simp,fun w Z g h ev _=>⟨by simp,fun cs vs hc _=>⟨vs,rfl,by simpa [HV] using hc⟩⟩⟩
 | (i,x)::L,n,k,hk=>by
  unfold PQ at hk
  replace hk:=AA.1 hk
  obtain⟨hin,hk⟩:=hk
  have hin:=Nat.eq_of_beq_eq_true hin
  subst hin
  split at hk
  ·rename_i y hy
   split at hk
   ·rename_i d hd
    replace hk:=AA.1 hk
    obtain⟨hag,hk⟩:=hk
    replace hk:=AA.1 hk
    obtain⟨hsz,hk⟩:=hk
    have hag:d.isAgg=ag:=by simpa using hag
    have hsz:=Nat.eq_of_beq_eq_true hsz
    obtain⟨ds,k1,k2,k3,k4⟩:=Sz (k:=k) L (i+1) _ hk
    refine⟨d::ds,k1,by simp[k2],?_,fun w Z g h ev hev=>?_⟩
    ·intro x hx
     rcases List.mem_cons.1 hx with rfl | hx
     ·exact⟨hag,hsz⟩
     ·exact k3 x hx
    ·have hr:=hev e i x (by simp)
     rw[hy]at hr
     have hr:=Ag.norm hr
     rw[hd]at hr
     obtain⟨k5,k6⟩:=k4 w Z g h ev (fun t i' p hp=>hev t i' p (List.mem_cons_of_mem _ hp))
     refine⟨fun q d' hq=>?_,fun cs vs hc hb=>?_⟩
     ·match q with
      | 0=>simp at hq;subst hq;exact⟨_,hr⟩
      | q+1=>exact k5 q d' (by simpa using hq)
     ·obtain⟨c1,c2⟩:=Ag.cells hr
      have hcl:(V1.cells (.d d)).length=sz:=by simpa [V1.cells] using hsz
      have hb':i*sz+sz≤cs.length:=by
       simp[Nat.add_mul]at hb
       omega
      have step:=Ma (off:=i*sz) hc ⟨c1,c2⟩ (by rw[hcl];exact hb')
      rw[hcl]at step
      obtain⟨vs',h1,h2⟩:=k6 _ _ step (by
       simp[hsz,V1.cells,Nat.add_mul]at hb ⊢
       omega)
      refine⟨vs',?_,?_⟩
      ·simp only[List.map_cons,Instr.fill]
       rw[if_neg]
       ·exact h1
       ·rw[c1,hcl,hc.1]
        simp
        omega
      ·have e1:(cs.take (i*sz)++V1.cells (.d d)++cs.drop (i*sz+sz)).take ((i+1)*sz)=cs.take (i*sz)++V1.cells (.d d):=by
        rw[List.take_append_of_le_length (by simp[hsz,V1.cells,Nat.add_mul];omega),List.take_of_length_le (by simp[hsz,V1.cells,Nat.add_mul];omega)]
       have e2:(cs.take (i*sz)++V1.cells (.d d)++cs.drop (i*sz+sz)).drop ((i+1+L.length)*sz)=cs.drop ((i+(L.length+1))*sz):=by
        rw[List.drop_append,List.drop_of_length_le (by simp[hsz,V1.cells,Nat.add_mul];omega),List.nil_append,List.drop_drop]
        congr 1
        simp[hsz,V1.cells,Nat.add_mul]
        omega
       rw[e1,e2]at h2
       simpa [HV,V1.cells,List.append_assoc] using h2
   ·exact hk.elim
  ·exact hk.elim
section
variable {C:Cx}{ti:Types}{o:Oper}{fresh:Nat}{s:AN}{h:AE}{k:Out→Prop}
theorem NN (w:World) (ob:Obj):w.grownBy (w.alloc ob) none:=World.grownBy_alloc w ob none
theorem O5 (hti:Ao C.P ti) (t:TypeId) (len:Nat) (parts:Array (Nat×Operand)) (ho:o.op= .buildSlice t len parts) (hk:DK ti s t len parts.toList k):∃out,k out∧A0 C o fresh s h out:=by
 unfold DK at hk
 replace hk:=AF.1 hk
 obtain⟨q,hq,hk⟩:=hk
 split at hk
 ·rename_i e hd
  replace hk:=AF.1 hk
  obtain⟨j,hj,hk⟩:=hk
  replace hk:=AA.1 hk
  obtain⟨hle,hk⟩:=hk
  replace hk:=AA.1 hk
  obtain⟨hlen,hk⟩:=hk
  replace hk:=AA.1 hk
  obtain⟨hsz,hk⟩:=hk
  have hle:=Nat.le_of_ble_eq_true hle
  have hlen:=Nat.eq_of_beq_eq_true hlen
  have hsz:0<j.size:=by simp[Nat.blt]at hsz;omega
  obtain⟨ds,hk,hdl,hds,hfill⟩:=Sz (k:=fun ds=>k ⟨.v (.c (.tl (AU j.desc) j.size ds)),[],[]⟩) _ _ _ hk
  refine⟨_,hk,?_⟩
  rintro F σs σh a w Q ⟨g,R⟩ hs hrd hF hdst
  have hev:∀t i p,(i,p)∈parts.toList→An w (Al (zone g σh) C.X) g σh (AP ti s t p) (a.eval p):=fun t i p hp=>
   AI ti t p R (s:=s) (fun k hk=>hs k (by
    subst hk
    simp only[ho,Op.operands,List.mem_map]
    exact⟨(i,.tmp k),hp,rfl⟩))
  obtain⟨f1,f2⟩:=hfill w _ g σh a.eval hev
  obtain⟨ii,i1,i2,i3,i4,i5⟩:=CT hti hj
  obtain⟨_,ii',j1,j2,_,_,j5,j6,j7⟩:=hti e j hj
  -- the row of zero cells
  let zs:Array Value:=(Array.range (len*j.size)).map (fun i=>j.zero.cells[i % j.zero.cells.size]!)
  have hz0:Fo w (Al (zone g σh) C.X) g σh (List.replicate (len*j.size) CV.un) zs:=by
   refine⟨by simp[zs],fun i c u hc hu=>?_⟩
   obtain rfl:=List.eq_of_mem_replicate (List.mem_of_getElem? hc)
   have hlt:i<len*j.size:=by
    have:=(Array.getElem?_eq_some_iff.1 hu).1
    simpa [zs] using this
   have hu':u=j.zero.cells[i % j.zero.cells.size]!:=by
    simp[zs,hlt]at hu
    exact hu.symm
   have hm:i % j.zero.cells.size<j.zero.cells.size:=Nat.mod_lt _ (by rw[j5];exact hsz)
   have hzc:∃c,j.zc[i % j.zero.cells.size]?=some c:=⟨_,List.getElem?_eq_getElem (by rw[j6,←j5];exact hm)⟩
   obtain⟨c,hc⟩:=hzc
   have:=j7 _ c _ hc (show j.zero.cells[i % j.zero.cells.size]?=some j.zero.cells[i % j.zero.cells.size]from by simp[hm])
   have:=Au.BW (Dk (w:=w) (Z:=fun _ _=>False) (g:=g) (h:=σh) this)
   subst hu'
   show _=true
   simpa [hm] using this
  obtain⟨vs',h1,h2⟩:=f2 _ _ hz0 (by simp[hlen])
  have hflat:(List.replicate (len*j.size) CV.un).take (0*j.size)++HV ds++(List.replicate (len*j.size) CV.un).drop ((0+parts.toList.length)*j.size)=HV ds:=by
   simp[hlen]
  rw[hflat]at h2
  have hfl:=Wp (ds:=ds) (sz:=j.size) (fun d hd=>(hds d hd).2)
  have hn:ds.length=len:=by rw[hdl,hlen]
  -- the run
  have e1:=B2 hti hq w
  rw[hd]at e1
  have e2:=Dl hti hj w
  have e3:(zeroValue e).run C.P w= .ok j.zero w:=by simp[zeroValue,typeInfo,i1,i4]
  have hrun:(execOp a.eval o).run C.P w= .ok (.value (.slice (some ⟨w.heap.size,0,none⟩) len len)) (w.alloc (.cells vs' e)):=by
   have hnot:¬(len*j.size>2 ^ 24):=by omega
   have r0:∀f:Nat→Value,Array.map f (Array.range 0)=#[]:=fun f=>by apply Array.ext';simp
   have h1':Instr.fill (fun i=>some (i*j.size,j.size)) (Array.map (fun i=>j.zero.cells[i % j.zero.cells.size]!) (Array.range (len*j.size))) (List.map (fun x=>(x.1,a.eval x.2)) parts.toList)=some vs':=h1
   by_cases h0:len*j.size=0
   ·rw[h0,r0]at h1'
    simp[execOp,ho,Instr.buildSlice,e1,e2,h0,r0,h1',newRow]
   ·simp[execOp,ho,Instr.buildSlice,e1,e2,hnot,h0,e3,h1',newRow]
  unfold Oper.wp
  rw[hrun]
  have hown:(w.alloc (.cells vs' e)).ownsRow w.heap.size e j.size (.slice (some ⟨w.heap.size,0,none⟩) len len) ds.length vs'.toList:=by
   refine⟨by rw[Array.length_toList,h2.1,hfl],.inr ⟨w.heap.size,len,vs',by rw[hn],Nat.le_refl _,heap_alloc_new w _,by omega,?_,by rw[h2.1,hfl,hn],?_⟩⟩
   ·have:len≤len*j.size:=Nat.le_mul_of_pos_right _ hsz
    simp only[maxLen];omega
   ·rw[List.take_of_length_le]
    rw[Array.length_toList,h2.1,hfl]
    exact Nat.le_refl _
  have hrel:∀(i:Nat) x (q:Nat) c,ds[i]?=some x→x.cells[q]?=some c→∃u,vs'.toList[i*j.size+q]?=some u∧AX w (Al (zone g σh) C.X) c u:=by
   intro i x q c hx hc
   have hg:=Pd (sz:=j.size) (fun d hd=>(hds d hd).2) i x q c hx hc
   have hlt:=(List.getElem?_eq_some_iff.1 hg).1
   have hlt':i*j.size+q<vs'.size:=by rw[h2.1];exact hlt
   exact⟨vs'[i*j.size+q],by simp[hlt'],(h2.2 _ _ _ hg (by simp[hlt'])).1⟩
  have hfit:∀x∈ds,x.fits (AU j.desc) j.size:=by
   intro x hx
   obtain⟨a1,a2⟩:=hds x hx
   refine⟨a1,a2,fun c hc=>?_⟩
   obtain⟨i,hi⟩:=List.mem_iff_getElem?.1 hx
   obtain⟨q,hq'⟩:=List.mem_iff_getElem?.1 hc
   have hg:=Pd (sz:=j.size) (fun d hd=>(hds d hd).2) i x q c hi hq'
   have hlt':i*j.size+q<vs'.size:=by rw[h2.1];exact (List.getElem?_eq_some_iff.1 hg).1
   exact (h2.2 _ _ _ hg (show vs'[i*j.size+q]?=some vs'[i*j.size+q]from by simp[hlt'])).2
  obtain⟨r1,r2⟩:=R.plain (NN w _) hsz hown hfit hrel
  exact⟨g,(r1.put hdst (v:=.v (.c (.tl (AU j.desc) j.size ds))) ⟨r2,_,by rw[hn]⟩).AW (fun n hn=>hn.1)⟩
 ·exact hk.elim
theorem Pe {ti:Types}{s:AN}{e:TypeId}{sz:Nat}:
  ∀(L:List (Nat×Operand)) (n:Nat) (k:List CV→Prop),Gq ti s e sz n L k→∃ys,k ys∧ys.length=L.length*sz∧
   ∀(w:World) (Z:Ad) (g:AL) (h:AE) (ev:Operand→Value),(∀t i p,(i,p)∈L→An w Z g h (AP ti s t p) (ev p))→
    ∀(cs:List CV) (vs:Array Value),Fo w Z g h cs vs→(n+L.length)*sz≤cs.length→
    ∃vs',Instr.fill (fun i=>some (i*sz,sz)) vs (L.map fun x=>(x.1,ev x.2))=some vs'∧Fo w Z g h (cs.take (n*sz)++ys++cs.drop ((n+L.length)*sz)) vs'
 | [],n,k,hk=>⟨[],hk,by simp,fun w Z g h ev _ cs vs hc _=>⟨vs,rfl,by simpa using hc⟩⟩
 | (i,x)::L,n,k,hk=>by
  unfold Gq at hk
  replace hk:=AA.1 hk
  obtain⟨hin,hk⟩:=hk
  have hin:=Nat.eq_of_beq_eq_true hin
  subst hin
  split at hk
  ·rename_i y hy
   replace hk:=AA.1 hk
   obtain⟨hsz,hk⟩:=hk
   have hsz:=Nat.eq_of_beq_eq_true hsz
   obtain⟨ys,k1,k2,k4⟩:=Pe L (i+1) _ hk
   refine⟨y.cells++ys,k1,by simp[k2,hsz,Nat.add_mul];omega,fun w Z g h ev hev cs vs hc hb=>?_⟩
   have hr:=hev e i x (by simp)
   rw[hy]at hr
   obtain⟨c1,c2⟩:=Ag.cells hr
   have hb':i*sz+sz≤cs.length:=by
    simp[Nat.add_mul]at hb
    omega
   have step:=Ma (off:=i*sz) hc ⟨c1,c2⟩ (by rw[hsz];exact hb')
   rw[hsz]at step
   obtain⟨vs',h1,h2⟩:=k4 w Z g h ev (fun t i' p hp=>hev t i' p (List.mem_cons_of_mem _ hp)) _ _ step (by
    simp[hsz,Nat.add_mul]at hb ⊢
    omega)
   refine⟨vs',?_,?_⟩
   ·simp only[List.map_cons,Instr.fill]
    rw[if_neg]
    ·exact h1
    ·rw[c1,hsz,hc.1]
     simp
     omega
   ·have e1:(cs.take (i*sz)++y.cells++cs.drop (i*sz+sz)).take ((i+1)*sz)=cs.take (i*sz)++y.cells:=by
     rw[List.take_append_of_le_length (by simp[hsz,Nat.add_mul];omega),List.take_of_length_le (by simp[hsz,Nat.add_mul];omega)]
    have e2:(cs.take (i*sz)++y.cells++cs.drop (i*sz+sz)).drop ((i+1+L.length)*sz)=cs.drop ((i+(L.length+1))*sz):=by
     rw[List.drop_append,List.drop_of_length_le (by simp[hsz,Nat.add_mul];omega),List.nil_append,List.drop_drop]
     congr 1
     simp[hsz,Nat.add_mul]
     omega
    rw[e1,e2]at h2
    simpa [List.append_assoc] using h2
  ·exact hk.elim
theorem Ek (hti:Ao C.P ti) (t:TypeId) (len:Nat) (parts:Array (Nat×Operand)) (ho:o.op= .buildSlice t len parts) {K:Bool→Nat→List CV→Prop}
  (hk:Ac ti t fun q=>match q.desc with
   | .slice e=>Ac ti e fun j=>Ay (Nat.ble (len*j.size) 16777216)<| Ay (Nat.beq parts.toList.length len)<| Ay (Nat.blt 0 j.size)<| Gq ti s e j.size 0 parts.toList (K (AU j.desc) j.size)
   | _=>False):
  ∃e j ys,ti e=some j∧0<j.size∧K (AU j.desc) j.size ys∧ys.length=len*j.size∧len*j.size≤16777216∧∀F σs σh g a w,AR C F σs σh g a w→(∀t,Operand.tmp t∈o.op.operands.toList→σs t=s t)→
   ∃vs',(execOp a.eval o).run C.P w= .ok (.value (.slice (some ⟨w.heap.size,0,none⟩) len len)) (w.alloc (.cells vs' e))∧Fo w (Al (zone g σh) C.X) g σh ys vs':=by
 replace hk:=AF.1 hk
 obtain⟨q,hq,hk⟩:=hk
 split at hk
 ·rename_i e hd
  replace hk:=AF.1 hk
  obtain⟨j,hj,hk⟩:=hk
  replace hk:=AA.1 hk
  obtain⟨hle,hk⟩:=hk
  replace hk:=AA.1 hk
  obtain⟨hlen,hk⟩:=hk
  replace hk:=AA.1 hk
  obtain⟨hsz,hk⟩:=hk
  have hle:=Nat.le_of_ble_eq_true hle
  have hlen:=Nat.eq_of_beq_eq_true hlen
  have hsz:0<j.size:=by simp[Nat.blt]at hsz;omega
  obtain⟨ys,hk,hyl,f2⟩:=Pe _ _ _ hk
  refine⟨e,j,ys,hj,hsz,hk,by rw[hyl,hlen],hle,?_⟩
  rintro F σs σh g a w R hs
  have hev:∀t i p,(i,p)∈parts.toList→An w (Al (zone g σh) C.X) g σh (AP ti s t p) (a.eval p):=fun t i p hp=>
   AI ti t p R (s:=s) (fun k hk=>hs k (by
    subst hk
    simp only[ho,Op.operands,List.mem_map]
    exact⟨(i,.tmp k),hp,rfl⟩))
  have f2:=f2 w _ g σh a.eval hev
  obtain⟨ii,i1,i2,i3,i4,i5⟩:=CT hti hj
  obtain⟨_,ii',j1,j2,_,_,j5,j6,j7⟩:=hti e j hj
  let zs:Array Value:=(Array.range (len*j.size)).map (fun i=>j.zero.cells[i % j.zero.cells.size]!)
  have hz0:Fo w (Al (zone g σh) C.X) g σh (List.replicate (len*j.size) CV.un) zs:=by
   refine⟨by simp[zs],fun i c u hc hu=>?_⟩
   obtain rfl:=List.eq_of_mem_replicate (List.mem_of_getElem? hc)
   have hlt:i<len*j.size:=by
    have:=(Array.getElem?_eq_some_iff.1 hu).1
    simpa [zs] using this
   have hu':u=j.zero.cells[i % j.zero.cells.size]!:=by
    simp[zs,hlt]at hu
    exact hu.symm
   have hm:i % j.zero.cells.size<j.zero.cells.size:=Nat.mod_lt _ (by rw[j5];exact hsz)
   have hzc:∃c,j.zc[i % j.zero.cells.size]?=some c:=⟨_,List.getElem?_eq_getElem (by rw[j6,←j5];exact hm)⟩
   obtain⟨c,hc⟩:=hzc
   have:=j7 _ c _ hc (show j.zero.cells[i % j.zero.cells.size]?=some j.zero.cells[i % j.zero.cells.size]from by simp[hm])
   have:=Au.BW (Dk (w:=w) (Z:=fun _ _=>False) (g:=g) (h:=σh) this)
   subst hu'
   show _=true
   simpa [hm] using this
  obtain⟨vs',h1,h2⟩:=f2 _ _ hz0 (by simp[hlen])
  have hflat:(List.replicate (len*j.size) CV.un).take (0*j.size)++ys++(List.replicate (len*j.size) CV.un).drop ((0+parts.toList.length)*j.size)=ys:=by
   simp[hlen]
  rw[hflat]at h2
  have e1:=B2 hti hq w
  rw[hd]at e1
  have e2:=Dl hti hj w
  have e3:(zeroValue e).run C.P w= .ok j.zero w:=by simp[zeroValue,typeInfo,i1,i4]
  have hrun:(execOp a.eval o).run C.P w= .ok (.value (.slice (some ⟨w.heap.size,0,none⟩) len len)) (w.alloc (.cells vs' e)):=by
   have hnot:¬(len*j.size>2 ^ 24):=by omega
   have r0:∀f:Nat→Value,Array.map f (Array.range 0)=#[]:=fun f=>by apply Array.ext';simp
   have h1':Instr.fill (fun i=>some (i*j.size,j.size)) (Array.map (fun i=>j.zero.cells[i % j.zero.cells.size]!) (Array.range (len*j.size))) (List.map (fun x=>(x.1,a.eval x.2)) parts.toList)=some vs':=h1
   by_cases h0:len*j.size=0
   ·rw[h0,r0]at h1'
    simp[execOp,ho,Instr.buildSlice,e1,e2,h0,r0,h1',newRow]
   ·simp[execOp,ho,Instr.buildSlice,e1,e2,hnot,h0,e3,h1',newRow]
  exact⟨vs',hrun,h2⟩
 ·exact hk.elim
theorem NP (hti:Ao C.P ti) (t:TypeId) (len:Nat) (parts:Array (Nat×Operand)) (ho:o.op= .buildSlice t len parts) (hk:Dj ti s t len parts.toList fresh k):∃out,k out∧A0 C o fresh s h out:=by
 obtain⟨e,j,ys,hj,hsz,hk,hyl,hle,H⟩:=Ek (K:=fun _ _ cs=>k ⟨.v (.c (.sl (.loc fresh) len)),[],[(.loc fresh,.cells cs)]⟩) hti t len parts ho hk
 refine⟨_,hk,?_⟩
 rintro F σs σh a w Q ⟨g,R⟩ hs hrd hF hdst
 obtain⟨vs',hrun,h2⟩:=H F σs σh g a w R hs
 unfold Oper.wp
 rw[hrun]
 have R':=R.alloc (n:=fresh) (hF 0 (by omega)) vs' e ys h2.1 h2.2
 exact⟨_,(R'.put hdst (v:=.v (.c (.sl (.loc fresh) len))) ⟨⟨w.heap.size,by simp[Ah]⟩,by simp[Ah,gH]⟩).AW (fun n hn=>⟨hn.1,fun e=>hn.2 (by omega)⟩)⟩
theorem Wq (hti:Ao C.P ti) (t:TypeId) (x y:Operand) (ok:Bool) (ho:o.op= .lookup t x y ok) (hk:GU ti t (AP ti s t x) (AP ti s 0 y) ok k):∃out,k out∧A0 C o fresh s h out:=by
 unfold GU at hk
 replace hk:=AF.1 hk
 obtain⟨q,hq,hk⟩:=hk
 split at hk
 ·rename_i kt et hd
  replace hk:=AF.1 hk
  obtain⟨kk,hkk,hk⟩:=hk
  replace hk:=AF.1 hk
  obtain⟨j,hj,hk⟩:=hk
  replace hk:=AA.1 hk
  obtain⟨hpk,hk⟩:=hk
  replace hk:=AA.1 hk
  obtain⟨hz0,hk⟩:=hk
  split at hk
  ·rename_i hop
   obtain⟨ii,i1,i2,i3,i4,i5⟩:=CT hti hj
   obtain⟨_,ii',j1,j2,_,_,j5,j6,j7⟩:=hti et j hj
   have run:∀F σs σh g a w,AR C F σs σh g a w→(∀t,Operand.tmp t∈o.op.operands.toList→σs t=s t)→
     (execOp a.eval o).run C.P w= .ok (.value (if ok then .tuple #[j.zero,.bool false]else j.zero)) w:=by
    intro F σs σh g a w R hs
    have hx:=AI ti t x R (s:=s) (fun t ht=>hs t (by subst ht;simp[ho,Op.operands]))
    rw[hop]at hx
    have hx:a.eval x= .map none:=hx
    have e1:=B2 hti hq w
    rw[hd]at e1
    have e2:=B2 hti hkk w
    have e3:(zeroValue et).run C.P w= .ok j.zero w:=by simp[zeroValue,typeInfo,i1,i4]
    have e5:∀n v,(Instr.checkKey true (n+1) kt v).run C.P w= .ok () w:=by
     intro n v
     have:plainKey kk.desc=true:=hpk
     unfold plainKey at this
     split at this
     ·rename_i hk2;rw[hk2]at e2;simp[Instr.checkKey,e2]
     ·rename_i hk2;rw[hk2]at e2;simp[Instr.checkKey,e2]
     ·cases this
    have e4:∀v,(Instr.checkKey true 10000 kt v).run C.P w= .ok () w:=e5 9999
    simp[execOp,ho,Instr.lookup,e1,hx,e4,Instr.findKey,e2,Instr.findNow,e3]
   have rel:∀(w:World) (Z:Ad) (g:AL) (h:AE),Ag w Z g h (V1.AZ (AU j.desc) j.zc) j.zero:=by
    intro w Z g h
    have hc:∀(q:Nat) c u,j.zc[q]?=some c→j.zero.cells[q]?=some u→Au w Z g h c u:=fun q c u h1 h2=>Dk (j7 q c u h1 h2)
    have hl:j.zero.cells.size=j.zc.length:=by rw[j5,j6]
    have hz1:=hz0
    unfold FE at hz1
    split at hz1
    ·rename_i cs hcs
     rw[hcs]at hc hl ⊢
     exact (Ag.AZ hl hc).1 hz1
    ·cases hz1
    ·rename_i v h1 h2
     have hrow:AU j.desc=false:=by cases hh:AU j.desc<;>simp[hh,BQ]at hz1 ⊢
     have hcell:j.zero.cells=#[j.zero]:=by
      cases hz:j.zero<;>first | rfl | exact absurd hz (h1 _)
     exact (Ag.AZ hl hc).2 hrow _ hcell
   cases ok with
   | true=>
    refine⟨_,hk,AG fun F σs σh g a w R hs _=>⟨_,run F σs σh g a w R hs,?_⟩⟩
    refine⟨#[j.zero,.bool false],rfl,rfl,fun q c u hc hu=>?_⟩
    match q with
    | 0=>simp at hc hu;subst hc;subst hu;exact rel _ _ _ _
    | 1=>simp at hc hu;subst hc;subst hu;exact .bool _
    | q+2=>simp at hc
   | false=>exact⟨_,hk,AG fun F σs σh g a w R hs _=>⟨_,run F σs σh g a w R hs,rel _ _ _ _⟩⟩
  ·exact hk.elim
 ·exact hk.elim
end
end Go.AM
namespace Go.AM
open Go Go.RowKit
def NQ (ys:List D):Prop:=∀r∈ys,∀c∈r.cells,EU c=false
def YJ (x:AV) (h:AE) (ag:Bool) (sz:Nat) (K:List Id→List D→Prop):Prop:=
 match x with
 | .v (.c (.nils _ _))=>K [] []
 | .v (.c (.ow i))=>match h i with
  | some (.tree kd ag' sz' rows foc)=>match kd with
   | .row=>match foc with
    | none=>Ay (ag'==ag) (Ay (Nat.beq sz' sz) (K [i] rows))
    | some _=>False
   | _=>False
  | _=>False
 | _=>False
def YK (y:AV) (h:AE) (ag:Bool) (sz:Nat) (K:List Id→List D→Prop):Prop:=
 match y with
 | .v (.c (.sl jj n))=>match h jj with
  | some (.cells cs)=>Ay (Nat.beq cs.length (n*sz)) (NF h cs fun ds is=>∃ys,rowsOf ag sz n ds=ys∧K is ys)
  | _=>False
 | .v (.c (.ow i))=>match h i with
  | some (.tree kd ag' sz' rows foc)=>match kd with
   | .row=>match foc with
    | none=>Ay (ag'==ag) (Ay (Nat.beq sz' sz) (K [i] rows))
    | some _=>False
   | _=>False
  | some (.part c ag' sz' rows)=>Ay (Nat.beq c 0) (Ay (ag'==ag) (Ay (Nat.beq sz' sz) (K [i] rows)))
  | _=>False
 | y=>HJ y fun ag' sz' ys=>Ay (ag'==ag) (Ay (Nat.beq sz' sz) (NQ ys∧K [] ys))
def bU:AV→List Id
 | .v (.c (.sl j _))=>[j]
 | _=>[]
def Jp (M:AY) (ti:Types) (t:TypeId) (x y:AV) (fresh:Nat) (h:AE) (k:Out→Prop):Prop:=
 Ac ti t fun q=>match q.desc with
 | .slice e=>Ac ti e fun j=>Ay (Nat.blt 0 j.size)<| YJ x h (AU j.desc) j.size fun ids rows=>YK y h (AU j.desc) j.size fun is ys=>
   Ay (nodupB (ids++is))<| (M.lock fun _=>rows.length+ys.length≤maxLen∧(rows.length+ys.length)*j.bytes≤140737488355328)∧∃out,rows++ys=out∧
    k ⟨.v (.c (.ow (.loc fresh))),ids++(is++bU y),Aa (ids++is)++[(.loc fresh,.tree .row (AU j.desc) j.size out none)]⟩
 | _=>False
def NR (M:AY) (ti:Types) (t:TypeId) (x y:AV) (fresh:Nat) (h:AE) (k:Out→Prop):Prop:=JA h (fun h'=>Jp M ti t x y fresh h') k
def YL (h:AE) (len fresh:Nat) (k:Out→Prop) (ag:Bool) (sz:Nat) (cs:List CV):Prop:=
 NF h cs fun ds is=>Ay (nodupB is)<| Ay (Nat.ble len maxLen)<| ∃ys,rowsOf ag sz len ds=ys∧k ⟨.v (.c (.ow (.loc fresh))),is,Aa is++[(.loc fresh,.tree .row ag sz ys none)]⟩
def Fs (ti:Types) (s:AN) (t:TypeId) (len:Nat) (parts:List (Nat×Operand)) (fresh:Nat) (h:AE) (k:Out→Prop):Prop:=
 Ac ti t fun q=>match q.desc with
 | .slice e=>Ac ti e fun j=>Ay (Nat.ble (len*j.size) 16777216)<| Ay (Nat.beq parts.length len)<| Ay (Nat.blt 0 j.size)<| Gq ti s e j.size 0 parts (YL h len fresh k (AU j.desc) j.size)
 | _=>False
def HW (ti:Types) (s:AN) (t:TypeId) (len:Nat) (parts:List (Nat×Operand)) (fresh:Nat) (h:AE) (k:Out→Prop):Prop:=JA h (fun h'=>Fs ti s t len parts fresh h') k
section
variable {C:Cx}{ti:Types}{o:Oper}{fresh:Nat}{s:AN}{h:AE}{k:Out→Prop}
theorem AX.own {w:World}{Z:Ad}{x:D}{v:Value}(r:AX w Z x v) (h1:EU x=false) (h2:x.isAgg=false):CD w x v (fun _=>False):=by
 cases r with
 | int k n=>exact .int k n
 | bool b=>exact .bool b
 | str s=>exact .str s
 | nil=>exact .nil
 | agg=>cases h2
 | _=>cases h1
structure bV (w:World) (X:Ad) (g:AL) (σh:AE) (ag:Bool) (sz:Nat) (ids:List Id) (rows:List D) (u:Value):Prop where
 whole:∀i∈ids,∃ob,σh i=some ob∧B7 ob
 own:∃xs T S,Holds w .row sz u rows.length xs∧Ej w ag sz rows xs T S∧(∀b,S b→∃i∈ids,BC (g i) b)∧(∀b,blk u=some b→∃i∈ids,BC (g i) b)∧(∀i j b,T i j b→blk u≠some b)
theorem bV.gG {w:World}{Z X:Ad}{g:AL}{σh:AE}{u:Value}{ag:Bool}{sz:Nat}{rows:List D}{i:Id}(RH:C9 w X g σh) (hσ:σh i=some (.tree .row ag sz rows none)) (hr:An w Z g σh (.v (.c (.ow i))) u):
  bV w X g σh ag sz [i] rows u:=by
 refine⟨fun j hj=>?_,?_⟩
 ·obtain rfl:j=i:=by simpa using hj
  exact⟨_,hσ,trivial⟩
 ·obtain⟨xs,T,p1,p2,p3,p4,_⟩:=Ej.eG RH hσ
  have hu:u=gval (g i):=hr.2.2 (by rw[hσ];rfl)
  rw[hu]
  exact⟨xs,T,_,p1,p2,fun b hb=>⟨i,by simp,hb⟩,fun b hb=>⟨i,by simp,p4 b hb⟩,p3⟩
theorem bW {x:AV}{ag:Bool}{sz:Nat}{K:List Id→List D→Prop}(hsz:0<sz) (hk:YJ x h ag sz K):
  ∃ids rows,K ids rows∧∀{w:World} {Z X:Ad} {g:AL} {σh:AE} {u:Value},C9 w X g σh→(∀i∈ids,σh i=h i)→An w Z g σh x u→bV w X g σh ag sz ids rows u:=by
 unfold YJ at hk
 split at hk
 ·refine⟨[],[],hk,fun _ _ hr=>⟨by simp,[],fun _ _ _=>False,fun _=>False,?_⟩⟩
  rw[show _=_ from hr]
  exact⟨⟨0,World.ownsRow_nil _ 0 0 sz⟩,Ej.nil _ _ _,by simp,by simp[blk],by simp⟩
 ·rename_i i
  split at hk
  ·rename_i kd ag' sz' rows foc hi
   split at hk
   ·split at hk
    ·replace hk:=AA.1 hk
     obtain⟨h1,hk⟩:=hk
     replace hk:=AA.1 hk
     obtain⟨h2,hk⟩:=hk
     have h1:ag'=ag:=by simpa using h1
     have h2:=Nat.eq_of_beq_eq_true h2
     subst h1
     subst h2
     exact⟨[i],rows,hk,fun RH he hr=>.gG RH ((he i (by simp)).trans hi) hr⟩
    ·exact hk.elim
   ·exact hk.elim
  ·exact hk.elim
 ·exact hk.elim
structure nM (w:World) (X:Ad) (g:AL) (σh:AE) (ag:Bool) (sz:Nat) (ids:List Id) (rows:List D) (u:Value):Prop where
 whole:∀i∈ids,∃ob,σh i=some ob∧B7 ob
 own:∃A cap xs T S,u= .slice A rows.length cap∧(0<rows.length→∃bb oo,A=some ⟨bb,oo,none⟩∧∀(k:Nat) u,xs[k]?=some u→w.cell? ⟨bb,oo+k,none⟩=some u)∧(∀u∈xs,u.oneCell'=true)∧
  Ej w ag sz rows xs T S∧(∀b,S b→∃i∈ids,BC (g i) b)
theorem Ej.one {w:World}{ag:Bool}{sz:Nat}{rows:List D}{xs:List Value}{T:Nat→Nat→Nat→Prop}{S:Nat→Prop}(hsz:0<sz) (h:Ej w ag sz rows xs T S):∀u∈xs,u.oneCell'=true:=by
 intro u hu
 obtain⟨k,hk⟩:=List.mem_iff_getElem?.1 hu
 have hlt:=(List.getElem?_eq_some_iff.1 hk).1
 rw[h.len]at hlt
 have hi:k / sz<rows.length:=Nat.div_lt_of_lt_mul (by rw[Nat.mul_comm];exact hlt)
 have hx:rows[k / sz]?=some rows[k / sz]:=List.getElem?_eq_getElem hi
 have hj:k % sz<rows[k / sz].cells.length:=by rw[(h.fits _ (List.getElem_mem hi)).2.1];exact Nat.mod_lt _ hsz
 obtain⟨u',hu',hr⟩:=h.cell _ _ _ _ hx (List.getElem?_eq_getElem hj)
 rw[show k / sz*sz+k % sz=k from by rw[Nat.mul_comm];exact Nat.div_add_mod k sz,hk]at hu'
 cases hu'
 exact hr.BW
theorem bX {y:AV}{ag:Bool}{sz:Nat}{K:List Id→List D→Prop}(hsz:0<sz) (hag:ag=false→sz=1) (hk:YK y h ag sz K):
  ∃ids rows,K ids rows∧(ids.Nodup→∀{w:World} {Z X:Ad} {g:AL} {σh:AE} {u:Value},C9 w X g σh→(∀i∈ids++bU y,σh i=h i)→An w Z g σh y u→nM w X g σh ag sz ids rows u):=by
 unfold YK at hk
 split at hk
 ·rename_i jj n
  split at hk
  ·rename_i cs hj
   replace hk:=AA.1 hk
   obtain⟨h1,hk⟩:=hk
   have h1:=Nat.eq_of_beq_eq_true h1
   obtain⟨ds,iss,⟨ys,rfl,hk⟩,q1,q2,q3⟩:=IL hk
   refine⟨_,_,hk,fun hnd=>fun RH he hr=>?_⟩
   rename_i w Z X g σh u
   have hσ:=(he jj (by simp[bU])).trans hj
   obtain⟨b,c,e,hg,hh,hs,hrel⟩:=RH.objs jj _ hσ
   obtain⟨_,hu⟩:=hr
   rw[hg]at hu
   have hu:u= .slice (some ⟨b,0,none⟩) n n:=hu
   have hc:∀(q:Nat) c d is,cs[q]?=some c→ds[q]?=some d→iss[q]?=some is→Bg σh c d is:=fun q c d is e1 e2 e3=>
    (q3 q c d is e1 e2 e3).at fun x hx=>he x (List.mem_append.2 (.inl (List.mem_flatten.2 ⟨is,List.mem_of_getElem? e3,hx⟩)))
   have ho:=Ej.of_closed (vs:=c.toList) RH hsz hag h1 q1 q2 (by simpa using hs) hnd hc (fun q x u h1 h2=>hrel q x u h1 (by simpa using h2))
   refine⟨fun x hx=>?_,some ⟨b,0,none⟩,n,c.toList,_,_,by rw[hu,D2],fun _=>⟨b,0,rfl,fun k u hu=>?_⟩,ho.one hsz,ho,fun _ h=>h⟩
   ·obtain⟨is,h6,h7⟩:=List.mem_flatten.1 hx
    obtain⟨q,hq⟩:=List.mem_iff_getElem?.1 h6
    have hlt:=(List.getElem?_eq_some_iff.1 hq).1
    exact (hc q (cs[q]'(by omega)) (ds[q]'(by omega)) is (List.getElem?_eq_getElem (by omega)) (List.getElem?_eq_getElem (by omega)) hq).whole x h7
   ·have:c[k]?=some u:=by simpa using hu
    simp[World.cell?,hh,this]
  ·exact hk.elim
 ·rename_i i
  split at hk
  ·rename_i kd ag' sz' rows foc hi
   split at hk
   ·split at hk
    ·replace hk:=AA.1 hk
     obtain⟨h1,hk⟩:=hk
     replace hk:=AA.1 hk
     obtain⟨h2,hk⟩:=hk
     have h1:ag'=ag:=by simpa using h1
     have h2:=Nat.eq_of_beq_eq_true h2
     subst h1
     subst h2
     refine⟨[i],rows,hk,fun _=>fun RH he hr=>?_⟩
     obtain⟨hw,xs,T,S,p1,p2,p3,p4,p5⟩:=bV.gG RH ((he i (by simp)).trans hi) hr
     obtain⟨A,cap,hu,_,_,hA⟩:=p1.row
     refine⟨hw,A,cap,xs,T,S,hu,fun h0=>?_,p2.one hsz,p2,p3⟩
     obtain⟨b,rfl⟩:=hA h0
     exact⟨b,0,rfl,fun k u hk=>by rw[Nat.zero_add];exact p1.cell rfl (by rw[hu];rfl) hk⟩
    ·exact hk.elim
   ·exact hk.elim
  ·rename_i c ag' sz' rows hi
   replace hk:=AA.1 hk
   obtain⟨h0,hk⟩:=hk
   replace hk:=AA.1 hk
   obtain⟨h1,hk⟩:=hk
   replace hk:=AA.1 hk
   obtain⟨h2,hk⟩:=hk
   have h0:=Nat.eq_of_beq_eq_true h0
   have h1:ag'=ag:=by simpa using h1
   have h2:=Nat.eq_of_beq_eq_true h2
   subst h0
   subst h1
   subst h2
   refine⟨[i],rows,hk,fun _=>fun RH he hr=>?_⟩
   rename_i w Z X g σh u
   have hσ:=(he i (by simp)).trans hi
   obtain⟨_,hf,A,cap,b,o,hv,hc1,hc2,hA,U,T,g1,g2,g3,g4⟩:=(RH.objs i _ hσ).2
   obtain⟨_,_,hu⟩:=hr
   have hu:=hu (by rw[hσ];rfl)
   rw[Nat.zero_add]at hv hA
   have own:Ej w ag' sz' rows ((List.range (rows.length*sz')).map fun m=>U (m / sz') (m % sz')) T (fun b=>∃i j,T i j b):=by
    refine⟨hf,by simp,fun x r jj d hr hd=>⟨U x jj,?_,(g1 x r jj d hr hd).2.2⟩,g2,g3,fun x jj b hb=>⟨x,jj,hb⟩⟩
    have hx:=(List.getElem?_eq_some_iff.1 hr).1
    have hj:jj<sz':=by
     have:=(List.getElem?_eq_some_iff.1 hd).1
     rw[(hf r (List.mem_of_getElem? hr)).2.1]at this
     exact this
    have hlt:x*sz'+jj<rows.length*sz':=Nat.lt_of_lt_of_le (show x*sz'+jj<(x+1)*sz' by rw[Nat.succ_mul];omega) (Nat.mul_le_mul_right sz' hx)
    rw[List.getElem?_map,List.getElem?_range hlt]
    show some (U ((x*sz'+jj) / sz') ((x*sz'+jj) % sz'))=some (U x jj)
    rw[Nat.mul_comm x sz',Nat.mul_add_div hsz,Nat.div_eq_of_lt hj,Nat.mul_add_mod,Nat.mod_eq_of_lt hj,Nat.add_zero]
   refine⟨fun x hx=>?_,A,cap,_,T,_,hu.trans hv,fun hp=>⟨b,o,hA hp,fun m v hm=>?_⟩,own.one hsz,own,fun b hb=>⟨i,by simp,(g4 b).2 hb⟩⟩
   ·obtain rfl:x=i:=by simpa using hx
    exact⟨_,hσ,trivial⟩
   ·rw[List.getElem?_map]at hm
    have hlt:m<rows.length*sz':=by
     rcases Nat.lt_or_ge m (rows.length*sz')with h | h
     ·exact h
     ·rw[List.getElem?_eq_none (by simpa using h)]at hm
      cases hm
    rw[List.getElem?_range hlt]at hm
    have hm:some (U (m / sz') (m % sz'))=some v:=hm
    have hx:m / sz'<rows.length:=Nat.div_lt_of_lt_mul (by rw[Nat.mul_comm];exact hlt)
    have hj:m % sz'<rows[m / sz'].cells.length:=by rw[(hf _ (List.getElem_mem hx)).2.1];exact Nat.mod_lt _ hsz
    have:=(g1 (m / sz') _ (m % sz') _ (List.getElem?_eq_getElem hx) (List.getElem?_eq_getElem hj)).1
    rw[Nat.zero_add,Nat.mul_comm (m / sz') sz',Nat.div_add_mod]at this
    rw[←hm]
    exact this
  ·exact hk.elim
 ·replace hk:=D4 hk
  obtain⟨ag',sz',ys,hrel,hk⟩:=hk
  replace hk:=AA.1 hk
  obtain⟨h1,hk⟩:=hk
  replace hk:=AA.1 hk
  obtain⟨h2,hsc,hk⟩:=hk
  have h1:ag'=ag:=by simpa using h1
  have h2:=Nat.eq_of_beq_eq_true h2
  subst h1
  subst h2
  refine⟨[],ys,hk,fun _=>fun RH he hr=>?_⟩
  have hd:=hrel hr
  obtain⟨A,cap,hv,_⟩:=IM hd
  rw[hv]at hd
  obtain⟨_,_,_,hA,hf,news,n1,n2,n3,n4⟩:=hd.Fi hsz
  refine⟨by simp,A,cap,news,fun _ _ _=>False,fun _=>False,hv,fun h0=>?_,n2,⟨hf,n1,fun i r j c hi hj=>?_,by simp,by simp,by simp⟩,by simp⟩
  ·obtain⟨b,o,rfl⟩:=hA (fun e=>by rw[e]at h0;simp at h0)
   exact⟨b,o,rfl,fun k u hu=>(n3 b o rfl k u hu).1⟩
  ·obtain⟨u,hu,hr⟩:=n4 i r j c hi hj
   exact⟨u,hu,hr.own (hsc r (List.mem_of_getElem? hi) c (List.mem_of_getElem? hj)) ((hf r (List.mem_of_getElem? hi)).2.2 c (List.mem_of_getElem? hj))⟩
theorem Ud (hti:Ao C.P ti) (h1:BB ti) (t:TypeId) (x y:Operand) (ho:o.op= .call {callee:=.builtin .append,args:=#[x,y],argTypes:=#[t,t]}) (hk:NR C.M ti t (AP ti s t x) (AP ti s t y) fresh h k):∃out,k out∧A0 C o fresh s h out:=by
 obtain⟨gs,hk⟩:=hk
 refine EW hk (fun h' k' hk'=>?_)
 clear hk
 unfold Jp at hk'
 obtain⟨q,hq,hk'⟩:=AF.1 hk'
 split at hk'
 ·rename_i e hd
  obtain⟨j,hj,hk'⟩:=AF.1 hk'
  replace hk':=AA.1 hk'
  obtain⟨hsz,hk'⟩:=hk'
  have hsz:0<j.size:=by simp[Nat.blt]at hsz;omega
  obtain⟨ids,rows,hk',hold⟩:=bW hsz hk'
  obtain⟨is,ys,hk',hnew⟩:=bX hsz (fun e=>h1 _ _ hj e) hk'
  obtain⟨hnd,hlk,out,rfl,hk'⟩:=AA.1 hk'
  obtain⟨hmax,hbytes⟩:=(C.M.lock_iff _).1 hlk
  have hnd:=Ba.1 hnd
  obtain⟨nd1,nd2,nd3⟩:=List.nodup_append.1 hnd
  refine⟨_,hk',?_⟩
  rintro F σs σh a w Q ⟨g,R⟩ hs hrd hF hdst
  have hx:=AI ti t x R (s:=s) (fun k hk=>hs k (by subst hk;simp[ho,Op.operands,Call.operands]))
  have hy:=AI ti t y R (s:=s) (fun k hk=>hs k (by subst hk;simp[ho,Op.operands,Call.operands]))
  obtain⟨w1,xs,T,S,p1,p2,p3,p4,p5⟩:=hold R.heap (fun i hi=>hrd i (List.mem_append.2 (.inl hi))) hx
  obtain⟨w2,A,cap,news,T',S',q1,q2,q3,q4,q5⟩:=hnew nd2 R.heap (fun i hi=>hrd i (List.mem_append.2 (.inr hi))) hy
  have hw0:∀i∈ids++is,∃ob,σh i=some ob∧B7 ob:=fun i hi=>by
   rcases List.mem_append.1 hi with hi | hi
   ·exact w1 i hi
   ·exact w2 i hi
  have apart:∀b,(∃i∈ids,BC (g i) b)→(∃i∈is,BC (g i) b)→False:=by
   rintro b ⟨i,hi,hb⟩ ⟨i',hi',hb'⟩
   obtain⟨ob,o1,o2⟩:=w1 i hi
   obtain⟨ob',o1',o2'⟩:=w2 i' hi'
   exact nd3 i hi i' hi' (R.heap.sep i i' ob ob' b o1 o1' (o2.F7 hb) (o2'.F7 hb'))
  obtain⟨v',w',hrun,r1,r2,r3,r4⟩:=FH hti (ty:=o.type) hq hd hj hsz p1 (B:=A) (c:=cap) q4.len q2 q3 hmax hbytes
  have hown:=p2.append q4 (fun b hb hb'=>apart b (p3 b hb) (q5 b hb'))
  have hlt:∀b,(∃i∈ids++is,BC (g i) b)→b<w.heap.size:=by
   rintro b ⟨i,hi,hb⟩
   obtain⟨ob,o1,o2⟩:=hw0 i hi
   exact (R.heap.objs i ob o1).lt (o2.F7 hb)
  have hsame:∀b,S b∨S' b→w'.heap[b]?=w.heap[b]?∨blk (a.eval x)=some b:=by
   intro b hb
   by_cases he:blk (a.eval x)=some b
   ·exact .inr he
   ·refine .inl (r3 b (hlt b ?_) he)
    rcases hb with hb | hb
    ·obtain⟨i,hi,hb⟩:=p3 b hb
     exact⟨i,List.mem_append.2 (.inl hi),hb⟩
    ·obtain⟨i,hi,hb⟩:=q5 b hb
     exact⟨i,List.mem_append.2 (.inr hi),hb⟩
  -- none of the rows lies in the list's own block
  have hdis:∀i j b,(if i<rows.length then T i j b else T' (i - rows.length) j b)→blk (a.eval x)≠some b:=by
   intro i j b hb
   split at hb
   ·exact p5 _ _ b hb
   ·exact fun he=>apart b (p4 b he) (q5 b (q4.sub _ _ b hb))
  have hown':Ej w' (AU j.desc) j.size (rows++ys) (xs++news) (fun i j b=>if i<rows.length then T i j b else T' (i - rows.length) j b) (fun b=>S b∨S' b):=
   {hown with cell:=fun i r j c hi hj=>let ⟨u,hu,hr⟩:=hown.cell i r j c hi hj;⟨u,hu,hr.same fun b hb=>(hsame b (hown.sub i j b hb)).resolve_right (hdis i j b hb)⟩}
  obtain⟨g',R',hrel⟩:=R.SR (T0:=ids++is) hw0 (hF 0 (by omega)) r2 (fun b hb hn=>r3 b hb fun he=>by
    obtain⟨i,hi,hb'⟩:=p4 b he
    exact hn i (List.mem_append.2 (.inl hi)) hb') hsz (by rw[List.length_append];exact r1) hown' (fun b hb=>by
     rcases hb with hb | hb
     ·obtain⟨i,hi,hb⟩:=p3 b hb
      exact⟨i,List.mem_append.2 (.inl hi),hb⟩
     ·obtain⟨i,hi,hb⟩:=q5 b hb
      exact⟨i,List.mem_append.2 (.inr hi),hb⟩)
   (fun b hb=>by
    rcases r4 b hb with hb | hb
    ·obtain⟨i,hi,hb⟩:=p4 b hb
     exact .inl ⟨i,List.mem_append.2 (.inl hi),hb⟩
    ·exact .inr hb)
   (fun i j b hb he=>by
    rcases r4 b he with he | he
    ·exact hdis i j b hb he
    ·have:=hlt b (by
      rcases hown.sub i j b hb with hb | hb
      ·obtain⟨i,hi,hb⟩:=p3 b hb
       exact⟨i,List.mem_append.2 (.inl hi),hb⟩
      ·obtain⟨i,hi,hb⟩:=q5 b hb
       exact⟨i,List.mem_append.2 (.inr hi),hb⟩)
     omega)
  unfold Oper.wp
  rw[CH (r:=.ok v' w') ho (by rw[q1];exact hrun)]
  rw[show Aq σh (Aa (ids++is)++[(.loc fresh,.tree .row (AU j.desc) j.size (rows++ys) none)])=AJ (Aq σh (Aa (ids++is))) (.loc fresh) (.tree .row (AU j.desc) j.size (rows++ys) none)from Cz]
  exact⟨g',(R'.put hdst (v:=.v (.c (.ow (.loc fresh)))) hrel).AW (fun n hn=>⟨hn.1,fun e=>hn.2 (by omega)⟩)⟩
 ·exact hk'.elim
theorem NS (hti:Ao C.P ti) (h1:BB ti) (t:TypeId) (len:Nat) (parts:Array (Nat×Operand)) (ho:o.op= .buildSlice t len parts) (hk:HW ti s t len parts.toList fresh h k):∃out,k out∧A0 C o fresh s h out:=by
 obtain⟨gs,hk⟩:=hk
 refine EW hk (fun h' k' hk'=>?_)
 clear hk
 obtain⟨e,j,cs,hj,hsz,hk',hyl,hle,H⟩:=Ek (C:=C) (K:=YL h' len fresh k') hti t len parts ho hk'
 obtain⟨ds,iss,hk2,q1,q2,q3⟩:=IL hk'
 replace hk2:=AA.1 hk2
 obtain⟨hnd,hk2⟩:=hk2
 replace hk2:=AA.1 hk2
 obtain⟨hmx,ys,rfl,hk2⟩:=hk2
 have hnd:=Ba.1 hnd
 have hmx:=Nat.le_of_ble_eq_true hmx
 refine⟨_,hk2,?_⟩
 rintro F σs σh a w Q ⟨g,R⟩ hs hrd hF hdst
 obtain⟨vs,hrun,h2⟩:=H F σs σh g a w R hs
 have hc:∀(q:Nat) c d is,cs[q]?=some c→ds[q]?=some d→iss[q]?=some is→Bg σh c d is:=fun q c d is e1 e2 e3=>
  (q3 q c d is e1 e2 e3).at fun x hx=>hrd x (List.mem_flatten.2 ⟨is,List.mem_of_getElem? e3,hx⟩)
 have hw:∀x∈iss.flatten,∃ob,σh x=some ob∧B7 ob:=by
  intro x hx
  obtain⟨is,h6,h7⟩:=List.mem_flatten.1 hx
  obtain⟨q,hq⟩:=List.mem_iff_getElem?.1 h6
  have hlt:=(List.getElem?_eq_some_iff.1 hq).1
  exact (hc q (cs[q]'(by omega)) (ds[q]'(by omega)) is (List.getElem?_eq_getElem (by omega)) (List.getElem?_eq_getElem (by omega)) hq).whole x h7
 have hlt:∀b,(∃i∈iss.flatten,BC (g i) b)→b<w.heap.size:=by
  rintro b ⟨i,hi,hb⟩
  obtain⟨ob,o1,o2⟩:=hw i hi
  exact (R.heap.objs i ob o1).lt (o2.F7 hb)
 have ho:=Ej.of_closed (vs:=vs.toList) R.heap hsz (fun e=>h1 _ _ hj e) hyl q1 q2 (by simpa using h2.1) hnd hc (fun q x u h3 h4=>h2.2 q x u h3 (by simpa using h4))
 have hl1:vs.size=len*j.size:=by rw[h2.1,hyl]
 have hho:Holds (w.alloc (.cells vs e)) .row j.size (.slice (some ⟨w.heap.size,0,none⟩) len len) (rowsOf (AU j.desc) j.size len ds).length vs.toList:=by
  rw[D2]
  refine⟨e,by simp[hl1],.inr ⟨w.heap.size,len,vs,rfl,Nat.zero_le _,heap_alloc_new w _,Nat.le_refl _,hmx,hl1,?_⟩⟩
  exact List.take_of_length_le (by simp[hl1])
 have ho':=ho.same (w':=w.alloc (.cells vs e)) fun b hb=>Below.heap_alloc w _ b (hlt b hb)
 obtain⟨g',R',hrel⟩:=R.SR (T0:=iss.flatten) (v:=.slice (some ⟨w.heap.size,0,none⟩) len len) (kd:=.row) (w':=w.alloc (.cells vs e)) hw (hF 0 (by omega)) ⟨rfl,rfl,rfl,by simp⟩ (fun b hb _=>Below.heap_alloc w _ b hb) hsz
  hho
  ho' (fun b hb=>hb) (fun b hb=>.inr (by simp[blk]at hb;omega)) (fun i j b hb he=>by
   have:=hlt b (ho.sub i j b hb)
   simp[blk]at he
   omega)
 unfold Oper.wp
 rw[hrun]
 rw[show Aq σh (Aa iss.flatten++[(.loc fresh,.tree .row (AU j.desc) j.size (rowsOf (AU j.desc) j.size len ds) none)])=AJ (Aq σh (Aa iss.flatten)) (.loc fresh) (.tree .row (AU j.desc) j.size (rowsOf (AU j.desc) j.size len ds) none)from Cz]
 exact⟨g',(R'.put hdst (v:=.v (.c (.ow (.loc fresh)))) hrel).AW (fun n hn=>⟨hn.1,fun e=>hn.2 (by omega)⟩)⟩
end
end Go.AM
namespace Go.AM
open Go Go.RowKit
def S0:List D→Nat→Option D
 | [],_=>none
 | x::r,n=>match n with
  | 0=>some x
  | m+1=>S0 r m
theorem Gu:∀{l:List D}{n:Nat},S0 l n=l[n]?
 | [],n=>by simp[S0]
 | x::r,0=>rfl
 | x::r,n+1=>by simpa [S0] using Gu (l:=r) (n:=n)
def gN (M:AY) (d:TypeDesc) (x y:D) (k:Bool→Prop):Prop:=
 match x,y with
 | .int q a,.int q' b=>match d with
  | .int _=>Ay (decide (q=q')) (M.split (M.eqI a b) k)
  | _=>False
 | .str a,.str b=>match d with
  | .string=>M.split (M.eqS a b) k
  | _=>False
 | .bool a,.bool b=>match d with
  | .bool=>k (bN a b)
  | _=>False
 | _,_=>False
def Ue (M:AY) (ti:Types) (xs ys:List D):List Field→(Bool→Prop)→Prop
 | [],k=>k true
 | f::fs,k=>Ac ti f.type fun j=>match S0 xs f.offset with
  | some x=>match S0 ys f.offset with
   | some y=>gN M j.desc x y fun q=>match q with
    | true=>Ue M ti xs ys fs k
    | false=>k false
   | none=>False
  | none=>False
def NT (P:Program) (t:TypeId) (fs:List Field):Prop:=P.stoodInHeld t=false∧P.eqGuardType P.depth t=false∧BP (fun f=>f.name != "_") fs=true
def NU (M:AY) (ti:Types) (op:BinOp) (t:TypeId) (x y:AV) (k:Out→Prop):Prop:=
 match x,y with
 | .v (.d (.agg xs)),.v (.d (.agg ys))=>Ac ti t fun i=>match i.desc with
  | .struct fs=>(M.lock fun _=>NT M.P t fs.toList)∧Ue M ti xs ys fs.toList fun q=>Dz op q fun d=>k ⟨.v (.d d),[],[]⟩
  | _=>False
 | _,_=>False
def Qi:AV→Bool
 | .v (.d (.agg _))=>true
 | _=>false
section
variable {C:Cx}{ti:Types}{o:Oper}{fresh:Nat}{s:AN}{h:AE}{k:Out→Prop}
theorem gP {M:AY}{d:TypeDesc}{x y:D}{k:Bool→Prop}(hk:gN M d x y k):∃q,k q∧x.isAgg=false∧y.isAgg=false∧AU d=false∧
  ∀{P:Program} {w:World} {Z:Ad} {u v:Value} {t:TypeId},P.underlying t=some d→AX w Z x u→AX w Z y v→∀n,(Op.equalIn (n+1) t u v).run P w= .ok q w:=by
 unfold gN at hk
 split at hk
 ·split at hk
  ·obtain⟨hq,hk2⟩:=AA.1 hk
   clear hk
   obtain rfl:=of_decide_eq_true hq
   refine⟨_,(M.split_iff _ _).1 hk2,rfl,rfl,rfl,fun hu h1 h2 n=>?_⟩
   cases h1
   cases h2
   rw[M.eqI_eq]
   exact run_equalIn_int _ n _ _ _ _ _ hu
  ·exact hk.elim
 ·split at hk
  ·refine⟨_,(M.split_iff _ _).1 hk,rfl,rfl,rfl,fun hu h1 h2 n=>?_⟩
   cases h1
   cases h2
   rw[M.eqS_eq]
   exact run_equalIn_string _ n _ _ _ hu
  ·exact hk.elim
 ·split at hk
  ·refine⟨_,hk,rfl,rfl,rfl,fun hu h1 h2 n=>?_⟩
   cases h1
   cases h2
   rw[Ex]
   exact run_equalIn_bool' _ n _ _ _ hu
  ·exact hk.elim
 ·exact hk.elim
theorem Qj {M:AY}(hti:Ao M.P ti) {xs ys:List D}:∀{fs:List Field}{k:Bool→Prop},Ue M ti xs ys fs k→BP (fun f=>f.name != "_") fs=true→
  ∃q,k q∧∀{w:World} {Z:Ad} {us vs:Array Value},AX w Z (.agg xs) (.agg us)→AX w Z (.agg ys) (.agg vs)→∀n,(Op.eqFields (n+1) us vs fs).run M.P w= .ok q w
 | [],k,hk,_=>⟨true,hk,fun _ _ _=>rfl⟩
 | f::fs,k,hk,hn=>by
  obtain⟨j,hj,hk⟩:=AF.1 hk
  rw[Az]at hn
  have hname:f.name≠ "_" :=by simpa using hn f (by simp)
  rw[Gu,Gu]at hk
  split at hk
  ·rename_i x hx
   split at hk
   ·rename_i y hy
    obtain⟨q,hk,hax,hay,hrow,hq⟩:=gP hk
    have hund:=(hti _ _ hj).1
    have part1:∀{w:World} {Z:Ad} {us:Array Value} {zs:List D} {z:D},AX w Z (.agg zs) (.agg us)→zs[f.offset]?=some z→∃u,(part f.type us f.offset).run M.P w= .ok u w∧AX w Z z u:=by
     intro w Z us zs z hr hz
     cases hr with
     | agg _ _ hs h1 h2=>
      have hlt:f.offset<us.size:=by rw[hs];exact (List.getElem?_eq_some_iff.1 hz).1
      refine⟨us[f.offset],?_,h2 f.offset z _ hz (by simp[hlt])⟩
      have e1:(isAgg f.type).run M.P w= .ok false w:=by
       have:=run_underlying hund w
       unfold isAgg
       cases hd:j.desc<;>simp[hd]at this hrow<;>first | (simp[this];done) | (simp[AU]at hrow)
      simp[part,e1,hlt]
    cases q with
    | true=>
     obtain⟨q',hk',H⟩:=Qj hti hk (Az.2 fun g hg=>hn g (by simp[hg]))
     refine⟨q',hk',fun h1 h2 n=>?_⟩
     obtain⟨u,hu,ru⟩:=part1 h1 hx
     obtain⟨v,hv,rv⟩:=part1 h2 hy
     simp[Op.eqFields,hname,hu,hv,hq hund ru rv n,H h1 h2 n]
    | false=>
     refine⟨false,hk,fun h1 h2 n=>?_⟩
     obtain⟨u,hu,ru⟩:=part1 h1 hx
     obtain⟨v,hv,rv⟩:=part1 h2 hy
     simp[Op.eqFields,hname,hu,hv,hq hund ru rv n]
   ·exact hk.elim
  ·exact hk.elim
theorem gQ (hti:Ao C.P ti) (op:BinOp) (t t':TypeId) (x y:Operand) (ho:o.op= .binOp op t x y t') (hk:NU C.M ti op t (AP ti s t x) (AP ti s t y) k):∃out,k out∧A0 C o fresh s h out:=by
 unfold NU at hk
 split at hk
 ·rename_i xs ys hop hop'
  obtain⟨i,hi,hk⟩:=AF.1 hk
  split at hk
  ·rename_i fs hd
   obtain⟨hl,hk⟩:=hk
   obtain⟨p1,p2,p3⟩:=(C.M.lock_iff _).1 hl
   obtain⟨q,hk,H⟩:=Qj (M:=C.M) hti hk p3
   have hu:=(hti t i hi).1
   rw[hd]at hu
   have hfs:C.P.fieldsOf t=fs:=by unfold Program.fieldsOf;rw[hu]
   have run:∀F σs σh g a w,AR C F σs σh g a w→(∀t,Operand.tmp t∈o.op.operands.toList→σs t=s t)→∃us vs,a.eval x= .agg us∧a.eval y= .agg vs∧(Op.equalIn 10000 t (.agg us) (.agg vs)).run C.P w= .ok q w:=by
    intro F σs σh g a w R hs
    have hx:=AI ti t x R (s:=s) (fun k hk=>hs k (by subst hk;simp[ho,Op.operands]))
    have hy:=AI ti t y R (s:=s) (fun k hk=>hs k (by subst hk;simp[ho,Op.operands]))
    rw[hop]at hx
    rw[hop']at hy
    obtain⟨us,hus⟩:=Gt (g:=g) (h:=σh) (y:=.d (.agg xs)) rfl hx
    obtain⟨vs,hvs⟩:=Gt (g:=g) (h:=σh) (y:=.d (.agg ys)) rfl hy
    refine⟨us,vs,hus,hvs,?_⟩
    have hx:AX w _ (.agg xs) (a.eval x):=hx
    have hy:AX w _ (.agg ys) (a.eval y):=hy
    rw[hus]at hx
    rw[hvs]at hy
    rw[run_equalIn_struct w 9999 t us vs (by rw[hfs];exact hu) p1,hfs]
    exact H hx hy 9998
   unfold Dz at hk
   split at hk
   ·refine⟨_,hk,AG fun F σs σh g a w R hs _=>?_⟩
    obtain⟨us,vs,e1,e2,e3⟩:=run F σs σh g a w R hs
    refine⟨.bool q,?_,.bool _⟩
    simp[execOp,ho,e1,e2,run_eqGuard_agg w _ t _ _ us vs p2,run_eql_struct,e3]
   ·refine⟨_,hk,AG fun F σs σh g a w R hs _=>?_⟩
    obtain⟨us,vs,e1,e2,e3⟩:=run F σs σh g a w R hs
    refine⟨.bool (!q),?_,by rw[DB];exact .bool _⟩
    simp[execOp,ho,e1,e2,run_eqGuard_agg w _ t _ _ us vs p2,run_neq_struct,e3]
   ·exact hk.elim
  ·exact hk.elim
 ·exact hk.elim
def K3:List D→Option (List Int)
 | []=>some []
 | x::r=>match x with
  | .int q n=>match q with
   | .u8=>match K3 r with
    | some l=>some (n::l)
    | none=>none
   | _=>none
  | _=>none
theorem NV:∀{rows:List D}{ns:List Int},K3 rows=some ns→rows=ns.map (D.int .u8)
 | [],ns,h=>by cases h;rfl
 | x::r,ns,h=>by
  unfold K3 at h
  split at h
  ·split at h
   ·split at h
    ·rename_i l hl
     cases h
     rw[NV hl];rfl
    ·cases h
   ·cases h
  ·cases h
def JD (ns:List Int):ByteArray:=ns.foldl (fun r n=>r.push (UInt8.ofNat n.toNat)) ByteArray.empty
def HX (M:AY) (ti:Types) (src dst:TypeId) (x:AV) (k:Out→Prop):Prop:=
 Ac ti src fun a=>Ac ti dst fun b=>match a.desc with
 | .slice e=>Ac ti e fun j=>match j.desc with
  | .int .u8=>match b.desc with
   | .string=>HJ x fun _ _ rows=>∃ns,(M.lock fun _=>K3 rows=some ns)∧∃bs,JD ns=bs∧k ⟨.v (.d (.str bs)),[],[]⟩
   | _=>False
  | _=>False
 | _=>False
def Uf:AV→Bool
 | .v (.d (.int _ _))=>true
 | _=>false
theorem YM (hti:Ao C.P ti) (src dst:TypeId) (x:Operand) (ho:o.op= .convert src dst x) (hk:HX C.M ti src dst (AP ti s src x) k):∃out,k out∧A0 C o fresh s h out:=by
 unfold HX at hk
 obtain⟨a1,h1,hk⟩:=AF.1 hk
 obtain⟨b1,h2,hk⟩:=AF.1 hk
 split at hk
 ·rename_i e d1
  obtain⟨j,h3,hk⟩:=AF.1 hk
  split at hk
  ·rename_i d3
   split at hk
   ·rename_i d2
    obtain⟨ag,sz,rows,hrel,hk⟩:=D4 hk
    obtain⟨ns,hl,bs,rfl,hk⟩:=hk
    obtain rfl:=NV ((C.M.lock_iff _).1 hl)
    refine⟨_,hk,AG fun F σs σh g a w R hs _=>?_⟩
    have hx:=AI ti src x R (s:=s) (fun t ht=>hs t (by subst ht;simp[ho,Op.operands]))
    have hd:=hrel hx
    have e1:=B2 hti h1 w
    have e2:=B2 hti h2 w
    have e3:=B2 hti h3 w
    rw[d1]at e1
    rw[d2]at e2
    rw[d3]at e3
    refine⟨.string (JD ns),?_,.str _⟩
    obtain⟨A,cap,hv,hcap,hmax,hfit,b,oo,hA,U,hU⟩:=IM hd
    by_cases hn:ns=[]
    ·subst hn
     cases A with
     | none=>simp[execOp,ho,convert,e1,e2,e3,hv,Conv.bytesToString,JD]
     | some A=>
      have hlc:=run_loadCells_list (P:=C.P) (w:=w) A [] (by simp)
      have:=run_bytesToString (P:=C.P) w A 0 cap [] (by simpa using hlc)
      simp[execOp,ho,convert,e1,e2,e3,hv,this,JD]
    ·have hne:ns.map (D.int .u8)≠[]:=by simpa using hn
     have hA:=hA hne
     subst hA
     have hsz:sz=1:=by
      obtain⟨n,ns',rfl⟩:=List.exists_cons_of_ne_nil hn
      have:=(hfit (.int .u8 n) (by simp)).2.1
      simpa [D.cells] using this.symm
     subst hsz
     have hlc:=run_loadCells_list (P:=C.P) (w:=w) ⟨b,oo,none⟩ (ns.map (Value.int .u8)) (fun q v hq=>by
      rw[List.getElem?_map,Option.map_eq_some_iff]at hq
      obtain⟨n,hn',rfl⟩:=hq
      obtain⟨c1,_,c3⟩:=hU q (.int .u8 n) 0 (.int .u8 n) (by simp[hn']) rfl
      rw[BN]
      cases hUq:U q 0 with
      | int kk m=>
       rw[hUq]at c3 c1
       cases c3
       simpa using c1
      | _=>rw[hUq]at c3;cases c3)
     have:=run_bytesToString (P:=C.P) w ⟨b,oo,none⟩ (ns.map (D.int .u8)).length cap ns (by simpa using hlc)
     simp only[List.length_map]at this hv
     simp[execOp,ho,convert,e1,e2,e3,hv,this,JD]
   ·exact hk.elim
  ·exact hk.elim
 ·exact hk.elim
end
end Go.AM
namespace Go.AM
open Go Go.RowKit
def kN:D→D→Option Bool
 | .int q a,.int q' b=>match decide (q=q')with
  | true=>some (a==b)
  | false=>none
 | .str a,.str b=>some (a==b)
 | _,_=>none
def NW (e:Bool) (key:D):List D→Option (Option D)
 | []=>some none
 | .agg (k::vs)::r=>match kN key k with
  | some true=>some (some (rowOf e vs))
  | some false=>NW e key r
  | none=>none
 | _::_=>none
def Wr (key:D) (ws:List D):List D→Option (List D)
 | []=>some [.agg (key::ws)]
 | .agg (k::vs)::r=>match kN key k with
  | some true=>some (.agg (key::ws)::r)
  | some false=>match Wr key ws r with
   | some r'=>some (.agg (k::vs)::r')
   | none=>none
  | none=>none
 | _::_=>none
structure L3 (w:World) (Z:Ad) (e:Bool) (sz:Nat) (row:D) (en:MapEntry):Prop where
 ok:∃k cs,row= .agg (k::cs)∧cs.length+1=sz∧(∀c∈k::cs,c.isAgg=false)∧AX w Z k en.key∧AX w Z (rowOf e cs) en.val
 val:Vm e en.val
 size:en.val.cells.size+1=sz
def D5 (w:World) (Z:Ad) (e:Bool) (sz:Nat):List D→List MapEntry→Prop
 | [],[]=>True
 | r::rs,m::ms=>L3 w Z e sz r m∧D5 w Z e sz rs ms
 | _,_=>False
theorem D5.len {w:World}{Z:Ad}{e:Bool}{sz:Nat}:∀{rows:List D}{ms:List MapEntry},D5 w Z e sz rows ms→ms.length=rows.length
 | [],[],_=>rfl
 | r::rs,m::ms,h=>by simp[D5.len h.2]
 | [],_::_,h=>h.elim
 | _::_,[],h=>h.elim
theorem D5.get {w:World}{Z:Ad}{e:Bool}{sz:Nat}:∀{rows:List D}{ms:List MapEntry},D5 w Z e sz rows ms→∀(i:Nat) r m,rows[i]?=some r→ms[i]?=some m→L3 w Z e sz r m
 | [],[],_,i,r,m,h1,_=>by simp at h1
 | r::rs,m::ms,h,i,r',m',h1,h2=>by
  match i with
  | 0=>simp at h1 h2;subst h1;subst h2;exact h.1
  | i+1=>simp at h1 h2;exact D5.get h.2 i r' m' h1 h2
 | [],_::_,h,_,_,_,_,_=>h.elim
 | _::_,[],h,_,_,_,_,_=>h.elim
theorem D5.bD {w:World}{Z:Ad}{e:Bool}{sz:Nat}:∀{rows:List D}{ms:List MapEntry},ms.length=rows.length→(∀(i:Nat) r m,rows[i]?=some r→ms[i]?=some m→L3 w Z e sz r m)→D5 w Z e sz rows ms
 | [],[],_,_=>trivial
 | r::rs,m::ms,hl,h=>⟨h 0 r m rfl rfl,D5.bD (by simpa using hl) fun i r' m' h1 h2=>h (i+1) r' m' (by simpa using h1) (by simpa using h2)⟩
 | [],_::_,h,_=>by simp at h
 | _::_,[],h,_=>by simp at h
theorem D5.mono {w w':World}{Z Z':Ad}{e:Bool}{sz:Nat}(hD:∀{x v},AX w Z x v→AX w' Z' x v):∀{rows:List D}{ms:List MapEntry},D5 w Z e sz rows ms→D5 w' Z' e sz rows ms
 | [],[],_=>trivial
 | r::rs,m::ms,h=>⟨⟨let ⟨k,cs,h1,h2,h3,h4,h5⟩:=h.1.ok;⟨k,cs,h1,h2,h3,hD h4,hD h5⟩,h.1.val,h.1.size⟩,D5.mono hD h.2⟩
 | [],_::_,h=>h.elim
 | _::_,[],h=>h.elim
theorem D5.append {w:World}{Z:Ad}{e:Bool}{sz:Nat}{r:D}{m:MapEntry}(h1:L3 w Z e sz r m):∀{rows:List D}{ms:List MapEntry},D5 w Z e sz rows ms→D5 w Z e sz (rows++[r]) (ms++[m])
 | [],[],_=>⟨h1,trivial⟩
 | _::_,_::_,h=>⟨h.1,D5.append h1 h.2⟩
 | [],_::_,h=>h.elim
 | _::_,[],h=>h.elim
theorem K4 {sz:Nat}:∀{m:List MapEntry},(∀e∈m,e.val.cells.size+1=sz)→∀(i:Nat) en (j:Nat),m[i]?=some en→j<sz→(m.flatMap fun e=>e.key::e.val.cells.toList)[i*sz+j]?=(en.key::en.val.cells.toList)[j]?
 | [],_,i,en,j,h,_=>by simp at h
 | e::m,hs,i,en,j,h,hj=>by
  have he:=hs e (by simp)
  have hl:(e.key::e.val.cells.toList).length=sz:=by simp;omega
  rw[List.flatMap_cons]
  match i with
  | 0=>
   simp at h
   subst h
   rw[List.getElem?_append_left (by omega)]
   simp
  | i+1=>
   have:(i+1)*sz+j=sz+(i*sz+j):=by rw[Nat.add_mul];omega
   rw[this,List.getElem?_append_right (by omega),hl]
   rw[show sz+(i*sz+j) - sz=i*sz+j by omega]
   exact K4 (fun x hx=>hs x (by simp[hx])) i en j (by simpa using h) hj
theorem YN {w:World}{Z:Ad}{e:Bool}{cs:List D}{v:Value}(hv:Vm e v) (hs:v.cells.size=cs.length) (ha:∀c∈cs,c.isAgg=false) (h:∀(j:Nat) c u,cs[j]?=some c→v.cells[j]?=some u→AX w Z c u):AX w Z (rowOf e cs) v:=by
 cases e with
 | true=>
  obtain⟨vs,rfl⟩:=hv
  exact .agg cs vs hs ha h
 | false=>
  have hc:=EL hv
  rw[hc]at hs
  match cs,hs with
  | [d],_=>exact h 0 d v rfl (by rw[hc];rfl)
theorem Jq {w:World}{Z:Ad}{g:AL}{h:AE}{e:Bool}{sz:Nat}{rows:List D}{gv:Value}(r:BH w Z g h (.tree (.fmap e) true sz rows none) gv):
  isTu gv∧0<sz∧∃b m clock,gval gv= .map (some b)∧w.heap[b]?=some (.map m clock)∧(∀en∈m,en.born<clock)∧D5 w Z e sz rows m.toList∧∀b',BC gv b'↔b'=b:=by
 obtain⟨ht,h0,hf,xs,hx,_,U,T,h1,h2,h3,h4,h5⟩:=r
 obtain⟨b,m,clock,hv,hh,hn,hb,hs,hok,rfl⟩:=hx
 have nT:∀i j b',¬T i j b':=by
  intro i j b' hT
  obtain⟨_,r,c,p1,p2⟩:=h2 i j b' hT
  exact ((Cs.fz rfl).1 (h1 i r j c (fun _ _ h=>by cases h) p1 p2).2).2 b' hT
 refine⟨ht,h0,b,m,clock,hv,hh,hb,D5.bD (by simpa using hn) fun i r en hr hm=>?_,fun b'=>?_⟩
 ·have hmem:en∈m:=Array.mem_toList_iff.1 (List.mem_of_getElem? hm)
  obtain⟨f1,f2,f3⟩:=hf r (List.mem_of_getElem? hr)
  have hsz:=hs en hmem
  match r,f1 with
  | .agg l,_=>
   have f2:l.length=sz:=f2
   match l,f2 with
   | [],f2=>simp at f2;omega
   | k::cs,f2=>
    have cell:∀(j:Nat) c u,(k::cs)[j]?=some c→(en.key::en.val.cells.toList)[j]?=some u→AX w Z c u:=by
     intro j c u hc hu
     have hj:j<sz:=by rw[←f2];exact (List.getElem?_eq_some_iff.1 hc).1
     obtain⟨p1,p2⟩:=h1 i _ j c (fun _ _ h=>by cases h) hr hc
     have:=K4 (sz:=sz) (fun e he=>hs e (Array.mem_toList_iff.1 he)) i en j hm hj
     rw[show Lu m=m.toList.flatMap fun e=>e.key::e.val.cells.toList from rfl,this,hu]at p1
     cases p1
     exact ((Cs.fz rfl).1 p2).1.1
    refine⟨⟨k,cs,rfl,by simpa using f2,f3,cell 0 k _ rfl rfl,YN (hok en hmem) (by simp at f2;omega) (fun c hc=>f3 c (by simp[D.cells,hc])) fun j c u hc hu=>cell (j+1) c u (by simpa using hc) (by simpa using hu)⟩,hok en hmem,hsz⟩
 ·rw[h5,hv]
  constructor
  ·rintro (h | ⟨i,j,h⟩)
   ·simp[blk]at h;exact h.symm
   ·exact (nT i j b' h).elim
  ·rintro rfl
   exact .inl rfl
theorem Vu {w:World}{Z:Ad}{g:AL}{h:AE}{e:Bool}{sz:Nat}{rows:List D}{gv:Value}{b:Nat}{m:Array MapEntry}{clock:Nat}(ht:isTu gv) (h0:0<sz) (hv:gval gv= .map (some b)) (hh:w.heap[b]?=some (.map m clock))
  (hb:∀en∈m,en.born<clock) (he:D5 w Z e sz rows m.toList) (hbl:∀b',BC gv b'↔b'=b):BH w Z g h (.tree (.fmap e) true sz rows none) gv:=by
 have hl:=he.len
 have pick:∀(i:Nat) r,rows[i]?=some r→∃en,m.toList[i]?=some en∧L3 w Z e sz r en:=by
  intro i r hr
  have hlt:=(List.getElem?_eq_some_iff.1 hr).1
  have hm:m.toList[i]?=some (m.toList[i]'(by omega)):=List.getElem?_eq_getElem (by omega)
  exact⟨_,hm,he.get i r _ hr hm⟩
 have pick':∀en∈m,∃r,L3 w Z e sz r en:=by
  intro en hen
  obtain⟨i,hi⟩:=List.mem_iff_getElem?.1 (Array.mem_toList_iff.2 hen)
  have hlt:=(List.getElem?_eq_some_iff.1 hi).1
  exact⟨_,he.get i (rows[i]'(by omega)) en (List.getElem?_eq_getElem (by omega)) hi⟩
 have hs:∀en∈m,en.val.cells.size+1=sz:=fun en hen=>let ⟨_,h⟩:=pick' en hen;h.size
 refine⟨ht,h0,fun r hr=>?_,Lu m,⟨b,m,clock,hv,hh,by simpa using hl,hb,hs,fun en hen=>let ⟨_,h⟩:=pick' en hen;h.val,rfl⟩,(fun _ _ h=>by cases h),fun i j=>(Lu m).getD (i*sz+j) undef,fun _ _ _=>False,fun i r j c _ hr hc=>?_,fun _ _ _ h=>h.elim,fun _ _ _ h=>h.elim,fun _ _ _ _ _ h=>h.elim,fun b'=>?_⟩
 ·obtain⟨i,hi⟩:=List.mem_iff_getElem?.1 hr
  obtain⟨en,_,hen⟩:=pick i r hi
  obtain⟨k,cs,rfl,q2,q3,_⟩:=hen.ok
  exact⟨rfl,by simpa [D.cells] using q2,q3⟩
 ·obtain⟨en,hm,hen⟩:=pick i r hr
  obtain⟨k,cs,rfl,q2,q3,q4,q5⟩:=hen.ok
  have hc:(k::cs)[j]?=some c:=hc
  have hj:j<sz:=by have:=(List.getElem?_eq_some_iff.1 hc).1;simp at this;omega
  have hfl:=K4 (sz:=sz) (fun e he=>hs e (Array.mem_toList_iff.1 he)) i en j hm hj
  have hfl:(Lu m)[i*sz+j]?=(en.key::en.val.cells.toList)[j]?:=hfl
  have hsz:=hen.size
  have hjl:j<(en.key::en.val.cells.toList).length:=by simp;omega
  have hu:=List.getElem?_eq_getElem hjl
  have hag:(rowOf e cs).cells=cs:=by
   cases e with
   | true=>rfl
   | false=>
    have hv:=EL hen.val
    rw[hv]at hsz
    match cs,(show cs.length=1 by simp at hsz;omega)with
    | [d],_=>
     have:=q3 d (by simp)
     show d.cells=[d]
     cases d<;>first | rfl | simp[D.isAgg]at this
  have hcell:=q5.cellsOf
  refine⟨by simp[hfl,hu],(Cs.fz rfl).2 ⟨⟨?_,q3 c (List.mem_of_getElem? hc)⟩,fun _ h=>h⟩⟩
  show AX w Z c ((Lu m).getD (i*sz+j) undef)
  rw[show (Lu m).getD (i*sz+j) undef=(en.key::en.val.cells.toList)[j]by simp[hfl,hu]]
  match j with
  | 0=>simp at hc;subst hc;exact q4
  | j+1=>
   have hc':cs[j]?=some c:=by simpa using hc
   have hu':en.val.cells[j]?=some (en.key::en.val.cells.toList)[j+1]:=by
    simp at hjl
    simp[hjl]
   exact (hcell.2 j c _ (by rw[hag];exact hc') hu').1
 ·rw[hbl,hv]
  simp[blk,eq_comm]
theorem D6 {P:Program}{w:World}{r:Nat}{es:Array MapEntry}{clock:Nat}(hb:w.heap[r]?=some (.map es clock)):(getObj r).run P w= .ok (.map es clock) w:=by simp[getObj,Sem.run,hb]
theorem FI {P:Program}{w:World}{r:Nat}{es:Array MapEntry}{clock:Nat}(o:Obj) (hb:w.heap[r]?=some (.map es clock)):(setObj r o).run P w= .ok () {w with heap:=w.heap.setIfInBounds r o}:=by simp[setObj,Sem.run,hb]
theorem AR.jX {C:Cx}{F:Nat→Prop}{s:AN}{h:AE}{g:AL}{a:Act}{w:World}(R:AR C F s h g a w) {id:Id}{e:Bool}{sz:Nat}{rows rows':List D}(hid:h id=some (.tree (.fmap e) true sz rows none)) {b:Nat}
  (hv:gval (g id)= .map (some b)) {m m':Array MapEntry} {clock clock':Nat} (hh:w.heap[b]?=some (.map m clock)) (hb:∀en∈m',en.born<clock')
  (he:D5 w (Al (zone g h) C.X) e sz rows' m'.toList):AR C F s (AJ h id (.tree (.fmap e) true sz rows' none)) g a {w with heap:=w.heap.setIfInBounds b (.map m' clock')}:=by
 obtain⟨ht,h0,b0,m0,c0,hv0,hh0,_,_,hbl⟩:=Jq (R.heap.objs id _ hid)
 rw[hv]at hv0
 cases hv0
 have hlt:b<w.heap.size:=(Array.getElem?_eq_some_iff.1 hh).1
 let w':World:={w with heap:=w.heap.setIfInBounds b (.map m' clock')}
 have hother:∀b',b'≠b→w'.heap[b']?=w.heap[b']?:=fun b' hb'=>by
  show (w.heap.setIfInBounds b (.map m' clock'))[b']?=_
  rw[Array.getElem?_setIfInBounds]
  simp[Ne.symm hb']
 have hself:w'.heap[b]?=some (.map m' clock'):=by
  show (w.heap.setIfInBounds b (.map m' clock'))[b]?=_
  rw[Array.getElem?_setIfInBounds]
  simp[hlt]
 have hcell:∀b' o u,w.cell? ⟨b',o,none⟩=some u→w'.cell? ⟨b',o,none⟩=some u:=by
  intro b' o u hu
  have hne:b'≠b:=by
   rintro rfl
   simp[World.cell?,hh]at hu
  simpa [World.cell?,hother b' hne] using hu
 have hz:∀b' o,zone g (AJ h id (.tree (.fmap e) true sz rows' none)) b' o→zone g h b' o:=by
  rintro b' o ⟨i,ob,hi,h1⟩
  by_cases hin:i=id
  ·subst hin
   simp[AJ]at hi
   subst hi
   exact⟨i,_,hid,h1⟩
  ·simp only[AJ,if_neg hin]at hi
   exact⟨i,ob,hi,h1⟩
 have E:Gp w (Al (zone g h) C.X) g h w' (Al (zone g (AJ h id (.tree (.fmap e) true sz rows' none))) C.X) g (AJ h id (.tree (.fmap e) true sz rows' none)):=by
  refine⟨fun b' o u hu hn=>⟨hcell b' o u hu,?_⟩,fun _ _ _=>rfl,fun _ _ _=>rfl,fun _ hi=>hi,fun i k sz' e' _ hk=>?_,fun _ hi=>hi,fun i hi hk=>?_⟩
  ·rintro (hx | hx)
   ·exact hn (.inl (hz b' o hx))
   ·exact hn (.inr hx)
  ·have hin:i≠id:=by rintro rfl;simp[AJ]at hk
   exact⟨k,Nat.le_refl _,by simpa [AJ,hin] using hk,fun _=>rfl⟩
  ·by_cases hin:i=id
   ·subst hin
    exact⟨by rw[hid];rfl,rfl⟩
   ·exact⟨by simpa [AJ,hin] using hk,rfl⟩
 refine R.step (fun i=>i=id) E ⟨rfl,rfl,rfl,by simp,fun b' _ hzn=>hother b' ?_,fun b' o u hu _=>hcell b' o u hu⟩ ?_ ?_ ?_ ?_ ?_ ?_ ?_
 ·rintro rfl
  exact hzn 0 ⟨id,_,hid,(hbl _).2 rfl⟩
 ·intro i hi
  simp[AJ,hi]
 ·intro i o b' hi ho hb'
  refine hother b' ?_
  rintro rfl
  exact hi (R.heap.sep i id o _ _ ho hid hb' ((hbl _).2 rfl))
 ·rintro i o rfl ho
  simp[AJ]at ho
  subst ho
  exact Vu ht h0 hv hself hb (he.mono E.Er) hbl
 ·rintro i o b' p rfl ho hb'
  simp[AJ]at ho
  subst ho
  exact .inl ⟨_,_,rfl,hid,hb'⟩
 ·rintro i j _ _ _ rfl rfl _ _ _ _
  rfl
 ·rintro j rfl
  exact .refl _
 ·intro k hk
  obtain⟨h1,h2⟩:=R.free k hk
  have hin:Id.loc k≠id:=by rintro rfl;rw[h2]at hid;simp at hid
  exact⟨h1,by simp[AJ,hin,h2]⟩
def HY (d:TypeDesc) (x:D):Bool:=
 match x with
 | .int _ _=>match d with
  | .int _=>true
  | _=>false
 | .str _=>match d with
  | .string=>true
  | _=>false
 | _=>false
theorem EY {w:World}{Z:Ad}{d:TypeDesc}{x y:D}{u v:Value}{q:Bool}(hk:HY d x=true) (hx:AX w Z x u) (hy:AX w Z y v) (h:kN x y=some q):Instr.sameNow d u v=some q∧(q=true→Instr.sameBits 10000 v u=true):=by
 cases x<;>simp[HY]at hk
 ·cases hx
  cases y<;>simp[kN]at h
  cases hy
  split at hk<;>try cases hk
  split at h
  ·rename_i hq
   have hq:=of_decide_eq_true hq
   subst hq
   cases h
   refine⟨by simp[Instr.sameNow],fun he=>?_⟩
   rw[eq_of_beq he,Instr.sameBits]
   simp
  ·cases h
 ·cases hx
  cases y<;>simp[kN]at h
  cases hy
  split at hk<;>try cases hk
  subst h
  refine⟨by simp[Instr.sameNow],fun he=>?_⟩
  rw[Instr.sameBits]
  rw[beq_toListBytes]at he ⊢
  rw[eq_of_beq he]
  exact beq_self_eq_true _
theorem S1 {w:World}{Z:Ad}{e:Bool}{sz:Nat}{d:TypeDesc}{key:D}{kv:Value}(hk:HY d key=true) (hkv:AX w Z key kv):∀{rows:List D}{ms:List MapEntry}{r:Option D}(i:Nat),D5 w Z e sz rows ms→NW e key rows=some r→
  (r=none∧Instr.findNow d kv ms i=some none)∨∃(y:D) (j:Nat) (en:MapEntry),r=some y∧Instr.findNow d kv ms i=some (some (j,en.val))∧AX w Z y en.val
 | [],[],r,i,_,h=>by cases h;exact .inl ⟨rfl,rfl⟩
 | r0::rs,m::ms,r,i,he,h=>by
  obtain⟨k,cs,rfl,q2,q3,q4,q5⟩:=he.1.ok
  unfold NW at h
  split at h
  ·rename_i heq
   cases h
   exact .inr ⟨_,i,m,rfl,by simp[Instr.findNow,(EY hk hkv q4 heq).1],q5⟩
  ·rename_i heq
   rcases S1 hk hkv (i+1) he.2 h with⟨h1,h2⟩ | ⟨y,j,en,h1,h2,h3⟩
   ·exact .inl ⟨h1,by simp[Instr.findNow,(EY hk hkv q4 heq).1,h2]⟩
   ·exact .inr ⟨y,j,en,h1,by simp[Instr.findNow,(EY hk hkv q4 heq).1,h2],h3⟩
  ·cases h
 | [],_::_,_,_,h,_=>h.elim
 | _::_,[],_,_,h,_=>h.elim
theorem Vv {w:World}{Z:Ad}{e:Bool}{sz:Nat}{d:TypeDesc}{key:D}{ws:List D}{kv val:Value}(hk:HY d key=true) (hkv:AX w Z key kv) (hnew:∀b,L3 w Z e sz (.agg (key::ws)) ⟨kv,val,b⟩):
  ∀{rows:List D} {ms:List MapEntry} {rows':List D} (i:Nat),D5 w Z e sz rows ms→Wr key ws rows=some rows'→
  (Instr.findNow d kv ms i=some none∧∀b,D5 w Z e sz rows' (ms++[⟨kv,val,b⟩]))∨
   ∃(j:Nat) (en:MapEntry),ms[j]?=some en∧Instr.findNow d kv ms i=some (some (i+j,en.val))∧Instr.sameBits 10000 en.key kv=true∧D5 w Z e sz rows' (ms.set j {en with key:=kv,val:=val})
 | [],[],rows',i,_,h=>by
  cases h
  exact .inl ⟨rfl,fun b=>⟨hnew b,trivial⟩⟩
 | r0::rs,m::ms,rows',i,he,h=>by
  obtain⟨k,cs,rfl,q2,q3,q4,q5⟩:=he.1.ok
  unfold Wr at h
  split at h
  ·rename_i heq
   cases h
   obtain⟨s1,s2⟩:=EY hk hkv q4 heq
   exact .inr ⟨0,m,rfl,by simp[Instr.findNow,s1],s2 rfl,⟨⟨(hnew m.born).ok,(hnew m.born).val,(hnew m.born).size⟩,he.2⟩⟩
  ·rename_i heq
   split at h
   ·rename_i r' hr'
    cases h
    obtain⟨s1,s2⟩:=EY hk hkv q4 heq
    rcases Vv hk hkv hnew (i+1) he.2 hr' with⟨h1,h2⟩ | ⟨j,en,h1,h2,h3,h4⟩
    ·exact .inl ⟨by simp[Instr.findNow,s1,h1],fun b=>⟨he.1,h2 b⟩⟩
    ·exact .inr ⟨j+1,en,by simpa using h1,by simp[Instr.findNow,s1,h2];omega,h3,⟨he.1,h4⟩⟩
   ·cases h
  ·cases h
 | [],_::_,_,_,h,_=>h.elim
 | _::_,[],_,_,h,_=>h.elim
def L4 (x:AV) (h:AE) (K:Id→Bool→Nat→List D→Prop):Prop:=
 match x with
 | .v (.c (.ow id))=>match h id with
  | some (.tree kd ag sz rows foc)=>match kd with
   | .fmap e=>match ag with
    | true=>match foc with
     | none=>K id e sz rows
     | some _=>False
    | false=>False
   | _=>False
  | _=>False
 | _=>False
def FJ (M:AY) (ti:Types) (t:TypeId) (x key:AV) (ok:Bool) (h:AE) (k:Out→Prop):Prop:=
 Ac ti t fun q=>match q.desc with
 | .map kt et=>Ac ti kt fun kk=>Ac ti et fun j=>Ay (FE j)<| match key with
  | .v (.d key)=>Ay (HY kk.desc key)<| L4 x h fun id e sz rows=>Ay (e==AU j.desc)<| ∃r,(M.lock fun _=>NW e key rows=some r)∧(match r with
   | some y=>(match ok with
    | true=>k ⟨.t [.d y,.d (.bool true)],[id],[]⟩
    | false=>k ⟨.v (.d y),[id],[]⟩)
   | none=>(match ok with
    | true=>k ⟨.t [V1.AZ (AU j.desc) j.zc,.d (.bool false)],[id],[]⟩
    | false=>k ⟨.v (V1.AZ (AU j.desc) j.zc),[id],[]⟩))
  | _=>False
 | _=>False
def D7 (M:AY) (ti:Types) (t:TypeId) (x key y:AV) (h:AE) (k:Out→Prop):Prop:=
 Ac ti t fun q=>match q.desc with
 | .map kt et=>Ac ti kt fun kk=>Ac ti et fun j=>match key with
  | .v (.d key)=>Ay (HY kk.desc key)<| DI y fun y=>match y.norm with
   | .d d=>Ay (d.isAgg==AU j.desc)<| Ay (Nat.beq d.cells.length j.size)<| L4 x h fun id e sz rows=>Ay (e==AU j.desc)<| Ay (Nat.beq sz (j.size+1))<|
    ∃rows',(M.lock fun _=>Wr key d.cells rows=some rows')∧k ⟨.u,[id],[(id,.tree (.fmap e) true sz rows' none)]⟩
   | _=>False
  | _=>False
 | _=>False
def Ft (ti:Types) (t:TypeId) (fresh:Nat) (k:Out→Prop):Prop:=
 Ac ti t fun q=>match q.desc with
 | .map _ et=>Ac ti et fun j=>k ⟨.v (.c (.ow (.loc fresh))),[],[(.loc fresh,.tree (.fmap (AU j.desc)) true (j.size+1) [] none)]⟩
 | _=>False
def Jr (ti:Types) (op:BinOp) (t:TypeId) (x y:AV) (h:AE) (k:Out→Prop):Prop:=
 match y with
 | .v (.c .nilm)=>Ac ti t fun q=>match q.desc with
  | .map _ _=>L4 x h fun id _ _ _=>Dz op false fun d=>k ⟨.v (.d d),[id],[]⟩
  | _=>False
 | _=>False
def Js (M:AY) (ti:Types) (t:TypeId) (x:AV) (h:AE) (k:Out→Prop):Prop:=
 Ac ti t fun q=>match q.desc with
 | .map _ _=>L4 x h fun id _ _ rows=>∃z:Int,M.lenI rows=z∧k ⟨.v (.d (.int .i64 z)),[id],[]⟩
 | _=>False
section
variable {C:Cx}{ti:Types}{o:Oper}{fresh:Nat}{s:AN}{h:AE}{k:Out→Prop}
theorem IQ {x:AV}{K:Id→Bool→Nat→List D→Prop}(hk:L4 x h K):∃id e sz rows,K id e sz rows∧h id=some (.tree (.fmap e) true sz rows none)∧
  ∀{w:World} {Z:Ad} {g:AL} {σh:AE} {u:Value},σh id=h id→An w Z g σh x u→u=gval (g id):=by
 unfold L4 at hk
 split at hk
 ·rename_i id
  split at hk
  ·rename_i kd ag sz rows foc hid
   split at hk
   ·rename_i e
    split at hk
    ·split at hk
     ·refine⟨id,e,sz,rows,hk,hid,fun hσ hr=>hr.2.2 (by rw[hσ,hid];rfl)⟩
     ·exact hk.elim
    ·exact hk.elim
   ·exact hk.elim
  ·exact hk.elim
 ·exact hk.elim
theorem EZ {P:Program}{w:World}{kt:TypeId}{d:TypeDesc}{key:D}{Z:Ad}{u:Value}(hd:P.underlying kt=some d) (hk:HY d key=true) (hu:AX w Z key u) (b:Bool) (n:Nat):(Instr.checkKey b (n+1) kt u).run P w= .ok () w:=by
 have e2:=run_underlying hd w
 cases key<;>simp[HY]at hk
 all_goals
  split at hk<;>try cases hk
  simp[Instr.checkKey,e2]
theorem YO {j:TI}{et:TypeId}{P:Program}(hti:Ao P ti) (hj:ti et=some j) (hz0:FE j=true):∀(w:World) (Z:Ad) (g:AL) (h:AE),Ag w Z g h (V1.AZ (AU j.desc) j.zc) j.zero:=by
 obtain⟨_,ii',j1,j2,_,_,j5,j6,j7⟩:=hti et j hj
 intro w Z g h
 have hc:∀(q:Nat) c u,j.zc[q]?=some c→j.zero.cells[q]?=some u→Au w Z g h c u:=fun q c u h1 h2=>Dk (j7 q c u h1 h2)
 have hl:j.zero.cells.size=j.zc.length:=by rw[j5,j6]
 have hz1:=hz0
 unfold FE at hz1
 split at hz1
 ·rename_i cs hcs
  rw[hcs]at hc hl ⊢
  exact (Ag.AZ hl hc).1 hz1
 ·cases hz1
 ·rename_i v h1 h2
  have hrow:AU j.desc=false:=by cases hh:AU j.desc<;>simp[hh,BQ]at hz1 ⊢
  have hcell:j.zero.cells=#[j.zero]:=by
   cases hz:j.zero<;>first | rfl | exact absurd hz (h1 _)
  exact (Ag.AZ hl hc).2 hrow _ hcell
theorem Ug (hti:Ao C.P ti) (t:TypeId) (x y:Operand) (ok:Bool) (ho:o.op= .lookup t x y ok) (hk:FJ C.M ti t (AP ti s t x) (AP ti s 0 y) ok h k):∃out,k out∧A0 C o fresh s h out:=by
 unfold FJ at hk
 obtain⟨q,hq,hk⟩:=AF.1 hk
 split at hk
 ·rename_i kt et hd
  obtain⟨kk,hkk,hk⟩:=AF.1 hk
  obtain⟨j,hj,hk⟩:=AF.1 hk
  obtain⟨hz0,hk⟩:=AA.1 hk
  split at hk
  ·rename_i key hop
   obtain⟨hkey,hk⟩:=AA.1 hk
   obtain⟨id,e,sz,rows,hk,hid,hrel⟩:=IQ hk
   obtain⟨he,hk⟩:=AA.1 hk
   obtain rfl:e=AU j.desc:=by simpa using he
   obtain⟨r,hl,hk⟩:=hk
   have hfind:=(C.M.lock_iff _).1 hl
   have run:∀F σs σh g a w,AR C F σs σh g a w→(∀t,Operand.tmp t∈o.op.operands.toList→σs t=s t)→(∀i∈[id],σh i=h i)→
     ∃v b,(execOp a.eval o).run C.P w= .ok (.value (if ok then .tuple #[v,.bool b]else v)) w∧(match r with | some y=>AX w (Al (zone g σh) C.X) y v∧b=true | none=>v=j.zero∧b=false):=by
    intro F σs σh g a w R hs hrd
    have hx:=AI ti t x R (s:=s) (fun t ht=>hs t (by subst ht;simp[ho,Op.operands]))
    have hy:=AI ti 0 y R (s:=s) (fun t ht=>hs t (by subst ht;simp[ho,Op.operands]))
    rw[hop]at hy
    have hy:AX w _ key (a.eval y):=hy
    have hσ:=hrd id (by simp)
    have hv:=hrel hσ hx
    obtain⟨ht,h0,b,m,clock,g1,g2,_,g4,_⟩:=Jq (R.heap.objs id _ (hσ.trans hid))
    rw[g1]at hv
    have e1:=B2 hti hq w
    rw[hd]at e1
    have e2:=B2 hti hkk w
    obtain⟨ii,i1,i2,i3,i4,i5⟩:=CT hti hj
    have e3:(zeroValue et).run C.P w= .ok j.zero w:=by simp[zeroValue,typeInfo,i1,i4]
    have e4:∀b,(Instr.checkKey b 10000 kt (a.eval y)).run C.P w= .ok () w:=fun b=>EZ (hti kt kk hkk).1 hkey hy b 9999
    have e5:=D6 (P:=C.P) g2
    rcases S1 hkey hy 0 g4 hfind with⟨rfl,h2⟩ | ⟨y',j',en,rfl,h2,h3⟩
    ·exact⟨j.zero,false,by simp[execOp,ho,Instr.lookup,e1,hv,e5,e4,Instr.findKey,e2,h2,e3],rfl,rfl⟩
    ·exact⟨en.val,true,by simp[execOp,ho,Instr.lookup,e1,hv,e5,e4,Instr.findKey,e2,h2],h3,rfl⟩
   cases r with
   | some y'=>
    cases ok with
    | true=>
     refine⟨_,hk,AG fun F σs σh g a w R hs hrd=>?_⟩
     obtain⟨v,b,e1,e2,rfl⟩:=run F σs σh g a w R hs hrd
     refine⟨_,e1,#[v,.bool true],rfl,rfl,fun q c u hc hu=>?_⟩
     match q with
     | 0=>simp at hc hu;subst hc;subst hu;exact e2
     | 1=>simp at hc hu;subst hc;subst hu;exact .bool _
     | q+2=>simp at hc
    | false=>
     refine⟨_,hk,AG fun F σs σh g a w R hs hrd=>?_⟩
     obtain⟨v,b,e1,e2,rfl⟩:=run F σs σh g a w R hs hrd
     exact⟨_,e1,e2⟩
   | none=>
    have rel:=YO hti hj hz0
    cases ok with
    | true=>
     refine⟨_,hk,AG fun F σs σh g a w R hs hrd=>?_⟩
     obtain⟨v,b,e1,rfl,rfl⟩:=run F σs σh g a w R hs hrd
     refine⟨_,e1,#[j.zero,.bool false],rfl,rfl,fun q c u hc hu=>?_⟩
     match q with
     | 0=>simp at hc hu;subst hc;subst hu;exact rel _ _ _ _
     | 1=>simp at hc hu;subst hc;subst hu;exact .bool _
     | q+2=>simp at hc
    | false=>
     refine⟨_,hk,AG fun F σs σh g a w R hs hrd=>?_⟩
     obtain⟨v,b,e1,rfl,rfl⟩:=run F σs σh g a w R hs hrd
     exact⟨_,e1,rel _ _ _ _⟩
  ·exact hk.elim
 ·exact hk.elim
theorem S2 (hti:Ao C.P ti) (t:TypeId) (ho:o.op= .makeMap t none) (hk:Ft ti t fresh k):∃out,k out∧A0 C o fresh s h out:=by
 unfold Ft at hk
 obtain⟨q,hq,hk⟩:=AF.1 hk
 split at hk
 ·rename_i kt et hd
  obtain⟨j,hj,hk⟩:=AF.1 hk
  refine⟨_,hk,?_⟩
  rintro F σs σh a w Q ⟨g,R⟩ hs hrd hF hdst
  have hrun:(execOp a.eval o).run C.P w= .ok (.value (.map (some w.heap.size))) (w.alloc (.map #[] 0)):=by
   simp[execOp,ho,Instr.makeMap]
  obtain⟨g',R',hrel⟩:=R.SQ (T0:=[]) (n:=fresh) (w':=w.alloc (.map #[] 0)) (by simp) (hF 0 (by omega)) ⟨rfl,rfl,rfl,by simp⟩ (fun b hb _=>Below.heap_alloc w _ b hb) (kd:=.fmap (AU j.desc)) (ag:=true) (sz:=j.size+1) (out:=[])
   (v:=.map (some w.heap.size)) (fun b=>b=w.heap.size) [w.heap.size] (by simp) (fun b hb=>.inr (by omega)) rfl
   (fun Z' g' h' gv gt gg gb _=>Vu gt (by omega) gg (heap_alloc_new w _) (by simp) trivial gb)
  unfold Oper.wp
  rw[hrun]
  exact⟨g',(R'.put hdst (v:=.v (.c (.ow (.loc fresh)))) hrel).AW (fun n hn=>⟨hn.1,fun e=>hn.2 (by omega)⟩)⟩
 ·exact hk.elim
theorem NX (hti:Ao C.P ti) (t:TypeId) (x y z:Operand) (ho:o.op= .mapUpdate t x y z∨o.op= .insert t x y z) (hd:o.dst=none) (hk:D7 C.M ti t (AP ti s t x) (AP ti s 0 y) (AP ti s 0 z) h k):∃out,k out∧A0 C o fresh s h out:=by
 unfold D7 at hk
 obtain⟨q,hq,hk⟩:=AF.1 hk
 split at hk
 ·rename_i kt et hdd
  obtain⟨kk,hkk,hk⟩:=AF.1 hk
  obtain⟨j,hj,hk⟩:=AF.1 hk
  split at hk
  ·rename_i key hop
   obtain⟨hkey,hk⟩:=AA.1 hk
   obtain⟨yv,hyv,hk⟩:=CS.1 hk
   split at hk
   ·rename_i d hnorm
    obtain⟨hag,hk⟩:=AA.1 hk
    obtain⟨hcl,hk⟩:=AA.1 hk
    obtain⟨id,e,sz,rows,hk,hid,hrel⟩:=IQ hk
    obtain⟨he,hk⟩:=AA.1 hk
    obtain⟨hsz,hk⟩:=AA.1 hk
    obtain rfl:e=AU j.desc:=by simpa using he
    obtain rfl:=Nat.eq_of_beq_eq_true hsz
    have hcl:=Nat.eq_of_beq_eq_true hcl
    have hag:d.isAgg=AU j.desc:=by simpa using hag
    obtain⟨rows',hl,hk⟩:=hk
    have hput:=(C.M.lock_iff _).1 hl
    refine⟨_,hk,?_⟩
    rintro F σs σh a w Q ⟨g,R⟩ hs hrd hF hdst
    have hx:=AI ti t x R (s:=s) (fun t ht=>hs t (by subst ht;rcases ho with ho | ho<;>simp[ho,Op.operands]))
    have hy:=AI ti 0 y R (s:=s) (fun t ht=>hs t (by subst ht;rcases ho with ho | ho<;>simp[ho,Op.operands]))
    have hz:=AI ti 0 z R (s:=s) (fun t ht=>hs t (by subst ht;rcases ho with ho | ho<;>simp[ho,Op.operands]))
    rw[hop]at hy
    have hy:AX w (Al (zone g σh) C.X) key (a.eval y):=hy
    rw[hyv]at hz
    have hz:Ag w (Al (zone g σh) C.X) g σh yv (a.eval z):=hz
    have hz:=hz.norm
    rw[hnorm]at hz
    have hz:AX w (Al (zone g σh) C.X) d (a.eval z):=hz
    have hσ:=hrd id (by simp)
    have hv:=hrel hσ hx
    obtain⟨ht,h0,b,m,clock,g1,g2,g3,g4,_⟩:=Jq (R.heap.objs id _ (hσ.trans hid))
    rw[g1]at hv
    obtain⟨c1,c2⟩:=hz.cellsOf
    have hcells:rowOf (AU j.desc) d.cells=d:=by
     rw[←hag]
     cases d<;>rfl
    have hnew:∀bn,L3 w (Al (zone g σh) C.X) (AU j.desc) (j.size+1) (.agg (key::d.cells)) ⟨a.eval y,a.eval z,bn⟩:=fun bn=>by
     refine⟨⟨key,d.cells,rfl,by omega,fun c hc=>?_,hy,by rw[hcells];exact hz⟩,?_,by show (a.eval z).cells.size+1=_;rw[c1,hcl]⟩
     ·rcases List.mem_cons.1 hc with rfl | hc
      ·cases c<;>first | rfl | simp[HY]at hkey
      ·obtain⟨q,hq'⟩:=List.mem_iff_getElem?.1 hc
       have hlt:=(List.getElem?_eq_some_iff.1 hq').1
       exact (c2 q c ((a.eval z).cells[q]'(by omega)) hq' (by simp)).2
     ·show Vm (AU j.desc) (a.eval z)
      rw[←hag]
      cases hda:d.isAgg with
      | true=>
       cases d<;>simp[D.isAgg]at hda
       obtain⟨vs,hvs⟩:=Gt (g:=g) (h:=σh) (y:=.d (.agg _)) rfl hz
       exact⟨vs,hvs⟩
      | false=>exact hz.BW hda
    have e1:=B2 hti hq w
    rw[hdd]at e1
    have e2:=B2 hti hkk w
    have e4:∀b,(Instr.checkKey b 10000 kt (a.eval y)).run C.P w= .ok () w:=fun b=>EZ (hti kt kk hkk).1 hkey hy b 9999
    have e5:=D6 (P:=C.P) g2
    have fin:∀(m':Array MapEntry) (clock':Nat),(∀en∈m',en.born<clock')→D5 w (Al (zone g σh) C.X) (AU j.desc) (j.size+1) rows' m'.toList→(execOp a.eval o).run C.P w= .ok .skip {w with heap:=w.heap.setIfInBounds b (.map m' clock')}→
      o.wp C.P a w (fun a' w'=>Rel C (fun n=>F n∧¬(fresh≤n∧n<fresh+32)) (Bp σs o.dst .u) (Aq σh [(id,.tree (.fmap (AU j.desc)) true (j.size+1) rows' none)]) a' w') Q:=by
     intro m' clock' f1 f2 f3
     unfold Oper.wp
     rw[f3]
     have R':=R.jX (hσ.trans hid) g1 g2 f1 f2
     exact⟨g,(R'.put (dst:=o.dst) (v:=.u) (u:=undef) (fun d e=>by rw[hd]at e;cases e) trivial).AW (fun n hn=>hn.1)⟩
    rcases Vv hkey hy hnew 0 g4 hput with⟨h1,h2⟩ | ⟨q',en,h1,h2,h3,h4⟩
    ·refine fin (m.push ⟨a.eval y,a.eval z,clock⟩) (clock+1) (fun en hen=>?_) (by simpa using h2 clock) ?_
     ·rcases Array.mem_push.1 hen with hen | rfl
      ·have:=g3 en hen;omega
      ·exact Nat.lt_succ_self _
     ·have:=FI (P:=C.P) (.map (m.push ⟨a.eval y,a.eval z,clock⟩) (clock+1)) g2
      rcases ho with ho | ho<;>simp[execOp,ho,Instr.mapUpdate,e1,hv,e5,e4,Instr.findKey,e2,h1,this]
    ·have hlt:=(List.getElem?_eq_some_iff.1 h1).1
     have hlt':q'<m.size:=by simpa using hlt
     have hmod:(m.modify q' fun e=>{e with key:=a.eval y,val:=a.eval z}).toList=m.toList.set q' {en with key:=a.eval y,val:=a.eval z}:=by
      apply List.ext_getElem?
      intro i
      rw[Array.getElem?_toList,Array.getElem?_modify,List.getElem?_set]
      by_cases hi:q'=i
      ·subst hi
       have:m[q']?=some en:=by simpa using h1
       have h9:m[q']=en:=(Array.getElem?_eq_some_iff.1 this).2
       simp[this,hlt',h9]
      ·simp[hi]
     refine fin (m.modify q' fun e=>{e with key:=a.eval y,val:=a.eval z}) clock (fun en' hen=>?_) (by rw[hmod];exact h4) ?_
     ·have hen:=Array.mem_toList_iff.2 hen
      rw[hmod]at hen
      rcases List.mem_or_eq_of_mem_set hen with hen | rfl
      ·exact g3 en' (Array.mem_toList_iff.1 hen)
      ·exact g3 en (Array.mem_toList_iff.1 (List.mem_of_getElem? h1))
     ·have:=FI (P:=C.P) (.map (m.modify q' fun e=>{e with key:=a.eval y,val:=a.eval z}) clock) g2
      have hq'':m[q']?=some en:=by simpa using h1
      simp only[Nat.zero_add]at h2
      rcases ho with ho | ho<;>simp[execOp,ho,Instr.mapUpdate,e1,hv,e5,e4,Instr.findKey,e2,h2,hq'',Instr.keyThatStays,h3,this]
   ·exact hk.elim
  ·exact hk.elim
 ·exact hk.elim
theorem bZ (hti:Ao C.P ti) (t:TypeId) (x:Operand) (ho:o.op= .call {callee:=.builtin .len,args:=#[x],argTypes:=#[t]}) (hk:Js C.M ti t (AP ti s t x) h k):∃out,k out∧A0 C o fresh s h out:=by
 unfold Js at hk
 obtain⟨q,hq,hk⟩:=AF.1 hk
 split at hk
 ·rename_i kt et hd
  obtain⟨id,e,sz,rows,hk,hid,hrel⟩:=IQ hk
  obtain⟨z,hz,hk⟩:=hk
  refine⟨_,hk,AG fun F σs σh g a w R hs hrd=>?_⟩
  have hx:=AI ti t x R (s:=s) (fun k hk=>hs k (by subst hk;simp[ho,Op.operands,Call.operands]))
  have hσ:=hrd id (by simp)
  have hv:=hrel hσ hx
  obtain⟨ht,h0,b,m,clock,g1,g2,g3,g4,_⟩:=Jq (R.heap.objs id _ (hσ.trans hid))
  rw[g1]at hv
  rw[←hz,C.M.lenI_eq]
  refine⟨.int .i64 rows.length,?_,.int _ _⟩
  have h1:=B2 hti hq w
  rw[hd]at h1
  have hl:m.size=rows.length:=by simpa using g4.len
  simp[execOp,ho,resolve,invoke,builtin,Builtin.len_,h1,hv,goInt,NJ g2,hl]
 ·exact hk.elim
theorem cA (hti:Ao C.P ti) (op:BinOp) (t t':TypeId) (x y:Operand) (ho:o.op= .binOp op t x y t') (hk:Jr ti op t (AP ti s t x) (AP ti s t y) h k):∃out,k out∧A0 C o fresh s h out:=by
 unfold Jr at hk
 split at hk
 rotate_left
 ·exact hk.elim
 rename_i hy0
 obtain⟨q,hq,hk⟩:=AF.1 hk
 split at hk
 rotate_left
 ·exact hk.elim
 rename_i kt et hd
 obtain⟨id,e,sz,rows,hk,hid,hrel⟩:=IQ hk
 have hu:C.P.underlying t=some (.map kt et):=by rw[(hti t q hq).1,hd]
 have run:∀F σs σh g a w,AR C F σs σh g a w→(∀t,Operand.tmp t∈o.op.operands.toList→σs t=s t)→(∀i∈[id],σh i=h i)→∃b,a.eval x= .map (some b)∧a.eval y= .map none:=by
  intro F σs σh g a w R hs hrd
  have hx:=AI ti t x R (s:=s) (fun k hk=>hs k (by subst hk;simp[ho,Op.operands]))
  have hy:=AI ti t y R (s:=s) (fun k hk=>hs k (by subst hk;simp[ho,Op.operands]))
  rw[hy0]at hy
  have hσ:=hrd id (by simp)
  have hv:=hrel hσ hx
  obtain⟨ht,h0,b,m,clock,g1,g2,g3,g4,_⟩:=Jq (R.heap.objs id _ (hσ.trans hid))
  rw[g1]at hv
  exact⟨b,hv,hy⟩
 unfold Dz at hk
 split at hk
 ·refine⟨_,hk,AG fun F σs σh g a w R hs hrd=>?_⟩
  obtain⟨b,h1,h2⟩:=run F σs σh g a w R hs hrd
  exact⟨.bool false,by simp[execOp,ho,h1,h2,eqGuard,binOp,CG hu],.bool _⟩
 ·refine⟨_,hk,AG fun F σs σh g a w R hs hrd=>?_⟩
  obtain⟨b,h1,h2⟩:=run F σs σh g a w R hs hrd
  exact⟨.bool true,by simp[execOp,ho,h1,h2,eqGuard,binOp,CG hu],.bool _⟩
 ·exact hk.elim
def cB (P:Program) (n:FuncId):Prop:=∃fn,P.funcs[n]?=some fn∧(fn.name== "runtime.NumGoroutine")=false∧fn.body.isNone=true∧Extern.findNext fn=none∧Extern.find fn=some add64Entry
def gR (M:AY) (f:AV) (args:List AV) (k:Out→Prop):Prop:=
 match f with
 | .v (.c (.fn n cap))=>match cap with
  | []=>match GM args with
   | some xs=>match xs with
    | [.d (.int .u64 x),.d (.int .u64 y),.d (.int .u64 c)]=>(M.lock fun _=>cB M.P n∧0≤x∧0≤y∧0≤c∧c≤1)∧∃z u:Int,(x+y+c) % 18446744073709551616=z∧(x+y+c) / 18446744073709551616=u∧k ⟨.t [.d (.int .u64 z),.d (.int .u64 u)],[],[]⟩
    | _=>False
   | none=>False
  | _=>False
 | _=>False
end
end Go.AM
namespace Go.AM
open Go Go.RowKit
def Qk:List Kx→ByteArray→Bool→Int
 | [],_,_=>0
 | x::r,s,b=>if x.1=(s,b)then x.2 else Qk r s b
def gS:List Kx→ByteArray→Bool→Int→List Kx
 | [],s,b,z=>[((s,b),z)]
 | x::r,s,b,z=>if x.1=(s,b)then (x.1,z)::r else x::gS r s b z
def Ql:List Kx→ByteArray×Bool→Nat→Option Nat
 | [],_,_=>none
 | x::r,k,i=>if x.1=k then some i else Ql r k (i+1)
theorem gT {w:World}{Z:Ad}{g:AL}{h:AE}{kt et:TypeId}{m:List Kx}{gv:Value}(r:BH w Z g h (.map kt et m) gv):
  ∃r ma clock,gv= .map (some r)∧w.heap[r]?=some (.map ma clock)∧eJ ma clock∧Lv ma.toList m:=r
def YP (M:AY) (ti:Types) (kt:TypeId):Prop:=
 Ac ti kt fun kk=>match kk.desc with
 | .struct fs=>match fs.toList with
  | [f0,f1]=>(M.lock fun _=>NT M.P kt [f0,f1])∧Ay (Nat.beq f0.offset 0) (Ay (Nat.beq f1.offset 1) (Ac ti f0.type fun j0=>match j0.desc with
   | .string=>Ac ti f1.type fun j1=>(match j1.desc with
    | .bool=>True
    | _=>False)
   | _=>False))
  | _=>False
 | _=>False
structure YQ (P:Program) (kt:TypeId):Prop where
 eq:∀(x y:ByteArray×Bool) (w:World),(Op.equal kt (Ky x) (Ky y)).run P w= .ok (decide (x=y)) w
 ck:∀(x:ByteArray×Bool) (b:Bool) (w:World),(Instr.checkKey b 10000 kt (Ky x)).run P w= .ok () w
 st:∃fs,P.underlying kt=some (.struct fs)
theorem YR {M:AY}{ti:Types}(hti:Ao M.P ti) {kt:TypeId}(hk:YP M ti kt):YQ M.P kt:=by
 unfold YP at hk
 obtain⟨kk,hkk,hk⟩:=AF.1 hk
 split at hk
 rotate_left
 ·exact hk.elim
 rename_i fs hd
 split at hk
 rotate_left
 ·exact hk.elim
 rename_i f0 f1 hfs
 obtain⟨hl,hk⟩:=hk
 obtain⟨p1,p2,p3⟩:=(M.lock_iff _).1 hl
 obtain⟨o0,hk⟩:=AA.1 hk
 obtain⟨o1,hk⟩:=AA.1 hk
 have o0:=Nat.eq_of_beq_eq_true o0
 have o1:=Nat.eq_of_beq_eq_true o1
 obtain⟨j0,hj0,hk⟩:=AF.1 hk
 split at hk
 rotate_left
 ·exact hk.elim
 rename_i hd0
 obtain⟨j1,hj1,hk⟩:=AF.1 hk
 split at hk
 rotate_left
 ·exact hk.elim
 rename_i hd1
 have hu:=(hti kt kk hkk).1
 rw[hd]at hu
 have hF:M.P.fieldsOf kt=fs:=by unfold Program.fieldsOf;rw[hu]
 have u0:=(hti _ _ hj0).1
 have u1:=(hti _ _ hj1).1
 rw[hd0]at u0
 rw[hd1]at u1
 have rel:∀(w:World) (x:ByteArray×Bool),AX w (fun _ _=>False) (.agg [.str x.1,.bool x.2]) (.agg #[.string x.1,.bool x.2]):=fun w x=>by
  refine .agg _ _ rfl ?_ ?_
  ·intro c hc;simp at hc;rcases hc with rfl | rfl<;>rfl
  ·intro q c v hc hv
   match q with
   | 0=>simp at hc hv;subst hc;subst hv;exact .str _
   | 1=>simp at hc hv;subst hc;subst hv;exact .bool _
   | q+2=>simp at hc
 refine⟨fun x y w=>?_,fun x b w=>?_,fs,hu⟩
 ·have he:Ue M ti [.str x.1,.bool x.2] [.str y.1,.bool y.2] fs.toList (fun q=>q=decide (x=y)):=by
   rw[hfs]
   refine AF.2 ⟨j0,hj0,?_⟩
   rw[Gu,Gu,o0]
   simp only[List.getElem?_cons_zero,hd0,gN]
   refine (M.split_iff _ _).2 ?_
   rw[M.eqS_eq]
   by_cases h:x.1=y.1
   ·have:(x.1.toList==y.1.toList)=true:=by rw[h];simp
    rw[this]
    refine AF.2 ⟨j1,hj1,?_⟩
    rw[Gu,Gu,o1]
    simp only[List.getElem?_cons_succ,List.getElem?_cons_zero,hd1,gN,Ex]
    by_cases h2:x.2=y.2
    ·have:x=y:=Prod.ext h h2
     subst this
     simp[Ue]
    ·have:x≠y:=fun e=>h2 (e▸rfl)
     have e2:(x.2==y.2)=false:=by simpa using h2
     rw[e2]
     simp[this]
   ·have e1:(x.1.toList==y.1.toList)=false:=by
     rw[Bool.eq_false_iff]
     intro e
     refine h ?_
     have e:=eq_of_beq e
     have l1:x.1.data.toList=y.1.data.toList:=by simpa [ByteArray.toList_eq] using e
     cases hx:x.1;cases hy:y.1
     rw[hx,hy]at l1
     congr
     exact Array.ext' l1
    have:x≠y:=fun e=>h (e▸rfl)
    rw[e1]
    simp[this]
  obtain⟨q,rfl,H⟩:=Qj hti he (by rw[hfs];exact p3)
  show (Op.equalIn 10000 kt (.agg #[.string x.1,.bool x.2]) (.agg #[.string y.1,.bool y.2])).run M.P w=_
  rw[run_equalIn_struct w 9999 kt _ _ (by rw[hF];exact hu) p1,hF]
  exact H (rel w x) (rel w y) 9998
 ·have hfs':fs=#[f0,f1]:=by apply Array.ext';simpa using hfs
  subst hfs'
  have a0:(isAgg f0.type).run M.P w= .ok false w:=by
   have:=run_underlying u0 w
   unfold isAgg
   simp[this]
  have a1:(isAgg f1.type).run M.P w= .ok false w:=by
   have:=run_underlying u1 w
   unfold isAgg
   simp[this]
  have e0:=run_underlying hu w
  have e1:=run_underlying u0 w
  have e2:=run_underlying u1 w
  have q0:(part f0.type #[.string x.1,.bool x.2] f0.offset).run M.P w= .ok (.string x.1) w:=by simp[part,a0,o0]
  have q1:(part f1.type #[.string x.1,.bool x.2] f1.offset).run M.P w= .ok (.bool x.2) w:=by simp[part,a1,o1]
  have key:∀n:Nat,(Instr.checkKey b (n+2) kt (Ky x)).run M.P w= .ok () w:=fun n=>by
   simp[Instr.checkKey,Ky,e0,e1,e2,q0,q1]
  exact key 9998
theorem Vw {P:Program}{kt:TypeId}(hK:YQ P kt) (k:ByteArray×Bool) (w:World):∀(m:List Kx) (es:List MapEntry) (i:Nat),Lv es m→
  (Instr.findAsking kt (Ky k) es i).run P w= .ok ((Ql m k i).map fun j=>(j,.int .i64 (Qk m k.1 k.2))) w
 | [],[],i,_=>by simp[Instr.findAsking,Ql]
 | [],e::es,_,h=>by simp[Lv]at h
 | x::m,[],_,h=>by simp[Lv]at h
 | x::m,e::es,i,h=>by
  obtain⟨h1,h2⟩:=List.cons.inj h
  obtain⟨h1,h3⟩:=Prod.mk.inj h1
  have e1:=hK.eq k x.1 w
  have h1:e.key=Ky x.1:=h1
  have h3:e.val= .int .i64 x.2:=h3
  unfold Instr.findAsking Ql Qk
  by_cases hk:x.1=k
  ·subst hk
   simp[h1,e1,h3]
  ·have hne:¬k=x.1:=fun e=>hk e.symm
   have ih:=Vw hK k w m es (i+1) h2
   simp[h1,e1,hne,hk,ih]
theorem YS {P:Program}{kt:TypeId}(hK:YQ P kt) (k:ByteArray×Bool) (w:World) {m:List Kx}{es:List MapEntry}(h:Lv es m):
  (Instr.findKey kt (Ky k) es).run P w= .ok ((Ql m k 0).map fun j=>(j,.int .i64 (Qk m k.1 k.2))) w:=by
 obtain⟨fs,hu⟩:=hK.st
 have e1:=run_underlying hu w
 have h2:=Vw hK k w m es 0 h
 unfold Instr.findKey
 cases es with
 | nil=>
  cases m with
  | nil=>simp[e1,Instr.findNow,Ql]
  | cons x m=>simp[Lv]at h
 | cons e es=>
  cases m with
  | nil=>simp[Lv]at h
  | cons x m=>
   have h1:e.key=Ky x.1:=(Prod.mk.inj (List.cons.inj h).1).1
   have e2:Instr.findNow (.struct fs) (Ky k) (e::es) 0=none:=by
    unfold Instr.findNow
    rw[h1]
    rfl
   simp[e1,e2,h2]
theorem Pf {k:ByteArray×Bool}:∀{m:List Kx}{i:Nat},Ql m k i=none→Qk m k.1 k.2=0∧∀z,gS m k.1 k.2 z=m++[(k,z)]
 | [],_,_=>⟨rfl,fun _=>rfl⟩
 | x::r,i,h=>by
  unfold Ql at h
  by_cases hk:x.1=k
  ·simp[hk]at h
  ·simp only[hk,if_false]at h
   obtain⟨h1,h2⟩:=Pf h
   refine⟨by unfold Qk;simp[hk,h1],fun z=>?_⟩
   unfold gS
   simp[hk,h2 z]
def YT (x:AV) (h:AE) (K:Id→TypeId→TypeId→List Kx→Prop):Prop:=
 match x with
 | .v (.c (.map i))=>match h i with
  | some (.map kt et es)=>K i kt et es
  | _=>False
 | _=>False
theorem Ws {x:AV}{h:AE}{K:Id→TypeId→TypeId→List Kx→Prop}(hk:YT x h K):∃i kt et es,x= .v (.c (.map i))∧h i=some (.map kt et es)∧K i kt et es:=by
 unfold YT at hk
 split at hk
 ·rename_i i
  split at hk
  ·rename_i kt et es hi
   exact⟨i,kt,et,es,rfl,hi,hk⟩
  ·exact hk.elim
 ·exact hk.elim
def nN (j:TI):Prop:=j.desc= .int .i64∧j.zero= .int .i64 0
def JE (M:AY) (ti:Types) (t:TypeId) (x key:AV) (h:AE) (k:Out→Prop):Prop:=
 Ac ti t fun q=>match q.desc with
 | .map kt et=>YP M ti kt∧Ac ti et fun j=>(M.lock fun _=>nN j)∧(match key with
  | .v (.d (.agg [.str s,.bool b]))=>YT x h fun i _ _ m=>∃z,Qk m s b=z∧k ⟨.v (.d (.int .i64 z)),[i],[]⟩
  | _=>False)
 | _=>False
def Pg (ti:Types) (t:TypeId):Bool:=
 match ti t with
 | some q=>(match q.desc with
  | .map kt _=>(match ti kt with
   | some j=>(match j.desc with
    | .struct _=>true
    | _=>false)
   | none=>false)
  | _=>false)
 | none=>false
def Fu (ti:Types) (t:TypeId) (fresh:Nat) (k:Out→Prop):Prop:=
 Ac ti t fun q=>match q.desc with
 | .map kt et=>k ⟨.v (.c (.map (.loc fresh))),[],[(.loc fresh,.map kt et [])]⟩
 | _=>False
def kO:AV→Bool
 | .v (.c (.map _))=>true
 | _=>false
section
variable {C:Cx}{ti:Types}{o:Oper}{fresh:Nat}{s:AN}{h:AE}{k:Out→Prop}
theorem gU {w:World}{Z:Ad}{s:ByteArray}{b:Bool}{v:Value}(h:AX w Z (.agg [.str s,.bool b]) v):v=Ky (s,b):=by
 cases h with
 | agg _ vs hs _ hr=>
  have:vs.size=2:=hs
  obtain⟨a,b,rfl⟩:∃a b,vs=#[a,b]:=⟨vs[0],vs[1],by
   apply Array.ext
   ·simpa using this
   ·intro i h1 h2
    match i,h2 with
    | 0,_=>rfl
    | 1,_=>rfl⟩
  cases hr 0 _ _ rfl rfl
  cases hr 1 _ _ rfl rfl
  rfl
theorem Uh (hti:Ao C.P ti) (t:TypeId) (x y:Operand) (ho:o.op= .lookup t x y false) (hk:JE C.M ti t (AP ti s t x) (AP ti s 0 y) h k):∃out,k out∧A0 C o fresh s h out:=by
 unfold JE at hk
 obtain⟨q,hq,hk⟩:=AF.1 hk
 split at hk
 rotate_left
 ·exact hk.elim
 rename_i kt et hd
 obtain⟨hK,hk⟩:=hk
 have hK:=YR hti hK
 obtain⟨j,hj,hn,hk⟩:=AF.1 hk
 obtain⟨n1,n2⟩:=(C.M.lock_iff _).1 hn
 split at hk
 rotate_left
 ·exact hk.elim
 rename_i sk bk hop
 obtain⟨i,_,_,m,hx0,hi,z,rfl,hk⟩:=Ws hk
 refine⟨_,hk,AG fun F σs σh g a w R hs hrd=>?_⟩
 have hx:=AI ti t x R (s:=s) (fun t ht=>hs t (by subst ht;simp[ho,Op.operands]))
 have hy:=AI ti 0 y R (s:=s) (fun t ht=>hs t (by subst ht;simp[ho,Op.operands]))
 rw[hop]at hy
 have hy:=gU (show AX w _ (.agg [.str sk,.bool bk]) (a.eval y)from hy)
 rw[hx0]at hx
 obtain⟨hx,_⟩:=hx
 have hσ:=hrd i (by simp)
 obtain⟨r,ma,clock,g1,g2,_,g4⟩:=gT (R.heap.objs i _ (hσ.trans hi))
 rw[g1]at hx
 have e1:=B2 hti hq w
 rw[hd]at e1
 obtain⟨ii,i1,i2,i3,i4,i5⟩:=CT hti hj
 have e3:(zeroValue et).run C.P w= .ok j.zero w:=by simp[zeroValue,typeInfo,i1,i4]
 have e4:∀b,(Instr.checkKey b 10000 kt (Ky (sk,bk))).run C.P w= .ok () w:=fun b=>hK.ck _ b w
 have e5:=D6 (P:=C.P) g2
 have e6:=YS hK (sk,bk) w g4
 refine⟨.int .i64 (Qk m sk bk),?_,AX.int _ _⟩
 cases hp:Ql m (sk,bk) 0 with
 | none=>
  obtain⟨h0,_⟩:=Pf hp
  have h0:Qk m sk bk=0:=h0
  rw[hp]at e6
  simp[execOp,ho,Instr.lookup,e1,hx,hy,e5,e4,e6,e3,n2,h0]
 | some j'=>
  rw[hp]at e6
  simp[execOp,ho,Instr.lookup,e1,hx,hy,e5,e4,e6]
theorem AR.allocMap {C:Cx}{F:Nat→Prop}{s:AN}{h:AE}{g:AL}{a:Act}{w:World}(R:AR C F s h g a w) {n:Nat}(hf:F n) (kt et:TypeId):
  AR C (fun k=>F k∧k≠n) s (AJ h (.loc n) (.map kt et [])) (Ah g (.loc n) (.map (some w.heap.size))) a (w.alloc (.map #[] 0)):=by
 have hX:∀b o,C.X b o→b<w.heap.size:=fun b o hx=>Nat.lt_of_lt_of_le (R.xs b o hx) R.frame.size
 obtain⟨hgn,hhn⟩:=R.free n hf
 have hne:∀{i:Id} {v:Value},g i=v→v≠undef→i≠ .loc n:=by
  rintro i v hv hu rfl
  exact hu (hv▸hgn)
 have E:Gp w (Al (zone g h) C.X) g h (w.alloc (.map #[] 0)) (Al (zone (Ah g (.loc n) (.map (some w.heap.size))) (AJ h (.loc n) (.map kt et []))) C.X)
   (Ah g (.loc n) (.map (some w.heap.size))) (AJ h (.loc n) (.map kt et [])):=by
  have now:∀{i:Id},isTu (g i)→i≠ .loc n:=by
   rintro i hi rfl
   rw[hgn]at hi
   exact Aw hi
  refine⟨fun b o u hu hz=>?_,fun i b hb=>?_,fun i q hq=>?_,fun i hi=>?_,fun i k sz e' hi hk=>?_,fun i hi=>by simpa [Ah,now hi] using hi,
   fun i hi hk=>⟨by simpa [AJ,now hi] using hk,by simp[Ah,now hi]⟩⟩
  ·have hlt:=World.block_lt_of_cell? w ⟨b,o,none⟩ hu
   refine⟨(World.cell?_alloc_lt w _ ⟨b,o,none⟩ hlt).trans hu,?_⟩
   rintro (⟨i,ob,hi,h1⟩ | hx)
   ·by_cases hin:i= .loc n
    ·subst hin
     simp only[AJ,if_true,Option.some.injEq]at hi
     subst hi
     have:=BC.map (q:=w.heap.size) (by simpa [Ah,BL] using h1)
     simp at hlt
     omega
    ·simp only[AJ,Ah,if_neg hin]at hi h1
     exact hz (.inl ⟨i,ob,hi,h1⟩)
   ·exact hz (.inr hx)
  ·exact if_neg (hne hb (by simp[undef]))
  ·exact if_neg (hne hq (by simp[undef]))
  ·have:i≠ .loc n:=by rintro rfl;rw[hgn]at hi;exact hi
   simpa [Ah,this] using hi
  ·have:i≠ .loc n:=by rintro rfl;rw[hgn]at hi;exact hi
   refine⟨k,Nat.le_refl _,by simpa [AJ,this] using hk,fun _=>by simp[Ah,this]⟩
 refine R.step (F':=fun k=>F k∧k≠n) (fun i=>i= .loc n) E ?_ ?_ ?_ ?_ ?_ ?_ ?_ ?_
 ·exact⟨rfl,rfl,rfl,by simp,fun b hb _=>Below.heap_alloc w _ b hb,fun b o u hu _=>(World.cell?_alloc_lt w _ ⟨b,o,none⟩ (World.block_lt_of_cell? w ⟨b,o,none⟩ hu)).trans hu⟩
 ·intro i hi
  simp[AJ,Ah,hi]
 ·intro i o b _ hi hb
  exact Below.heap_alloc w _ b ((R.heap.objs i o hi).lt hb)
 ·rintro i o rfl ho
  simp[AJ]at ho
  subst ho
  exact⟨w.heap.size,#[],0,by simp[Ah],heap_alloc_new w _,⟨by simp,by simp⟩,rfl⟩
 ·rintro i o b p rfl ho hb
  simp[AJ]at ho
  subst ho
  have:=BC.map (q:=w.heap.size) (by simpa [Ah,BL] using hb)
  exact .inr (by omega)
 ·rintro i j _ _ _ rfl rfl _ _ _ _
  rfl
 ·intro j hj
  exact absurd hj (by simp)
 ·rintro k ⟨hk,hkn⟩
  have:=R.free k hk
  simp[Ah,AJ,hkn,this]
theorem S3 (t:TypeId) (ho:o.op= .makeMap t none) (hk:Fu ti t fresh k):∃out,k out∧A0 C o fresh s h out:=by
 unfold Fu at hk
 obtain⟨q,hq,hk⟩:=AF.1 hk
 split at hk
 ·rename_i kt et hd
  refine⟨_,hk,?_⟩
  rintro F σs σh a w Q ⟨g,R⟩ hs hrd hF hdst
  have hrun:(execOp a.eval o).run C.P w= .ok (.value (.map (some w.heap.size))) (w.alloc (.map #[] 0)):=by
   simp[execOp,ho,Instr.makeMap]
  have R':=R.allocMap (n:=fresh) (hF 0 (by omega)) kt et
  unfold Oper.wp
  rw[hrun]
  exact⟨_,(R'.put hdst (v:=.v (.c (.map (.loc fresh)))) ⟨by simp[Ah],w.heap.size,by simp[Ah]⟩).AW (fun n hn=>⟨hn.1,fun e=>hn.2 (by omega)⟩)⟩
 ·exact hk.elim
end
end Go.AM
namespace Go.AM
open Go Go.RowKit
def zD:CV→Option D
 | .d (.int k n)=>some (.int k n)
 | .d (.bool b)=>some (.bool b)
 | .d (.str x)=>some (.str x)
 | .nilp=>some .nil
 | .nils ag sz=>match Nat.blt 0 sz with
  | true=>some (.list ag sz [])
  | false=>none
 | _=>none
def kP:List CV→Option (List D)
 | []=>some []
 | c::r=>match zD c with
  | some d=>match kP r with
   | some ds=>some (d::ds)
   | none=>none
  | none=>none
theorem IT {h:AE}{c:CV}{d:D}(e:zD c=some d):Bg h c d []∧d.isAgg=false:=by
 unfold zD at e
 split at e
 ·cases e;exact⟨.d _ rfl,rfl⟩
 ·cases e;exact⟨.d _ rfl,rfl⟩
 ·cases e;exact⟨.d _ rfl,rfl⟩
 ·cases e;exact⟨.nilp,rfl⟩
 ·rename_i ag sz
  cases hs:Nat.blt 0 sz with
  | true=>
   rw[hs]at e
   cases e
   exact⟨.nils _ _ (by simp[Nat.blt]at hs;omega),rfl⟩
  | false=>rw[hs]at e;cases e
 ·cases e
theorem Vx:∀{cs:List CV}{ds:List D},kP cs=some ds→ds.length=cs.length∧∀(j:Nat) c,cs[j]?=some c→∃d,ds[j]?=some d∧zD c=some d
 | [],ds,h=>by cases h;exact⟨rfl,by simp⟩
 | c::cs,ds,h=>by
  simp only[kP]at h
  split at h
  ·rename_i d hd
   split at h
   ·rename_i ds' hds
    cases h
    obtain⟨h1,h2⟩:=Vx hds
    refine⟨by simp[h1],fun j x hx=>?_⟩
    match j with
    | 0=>simp at hx;subst hx;exact⟨d,rfl,hd⟩
    | j+1=>simp at hx;exact h2 j x hx
   ·cases h
  ·cases h
def Dn (M:AY) (ti:Types) (t:TypeId) (x y:AV) (fresh:Nat) (k:Out→Prop):Prop:=
 Cy x fun _ n=>Cy y fun _ m=>Ac ti t fun q=>match q.desc with
 | .slice e=>Ac ti e fun j=>Ay (Nat.blt 0 j.size)<| match kP j.zc with
  | some ds=>(M.lock fun _=>n=m∧0≤n∧n≤9223372036854775807∧(j.bytes:Int)*n≤281474976710656)∧∃rows,List.replicate n.toNat (rowOf (AU j.desc) ds)=rows∧∃own:Bool,match own with
   | true=>k ⟨.v (.c (.ow (.loc fresh))),[],[(.loc fresh,.tree .row (AU j.desc) j.size rows none)]⟩
   | false=>k ⟨.v (.c (.tl (AU j.desc) j.size rows)),[],[]⟩
  | none=>False
 | _=>False
section
variable {C:Cx}{ti:Types}{o:Oper}{fresh:Nat}{s:AN}{h:AE}{k:Out→Prop}
theorem O6 {z:Array Value}{n i j:Nat}{u:Value}(hi:i<n) (hj:z[j]?=some u):(madeCells z (n*z.size)).toList[i*z.size+j]?=some u:=by
 have hjl:=(Array.getElem?_eq_some_iff.1 hj).1
 have hlt:i*z.size+j<n*z.size:=by
  have:=Nat.mul_le_mul_right z.size (show i+1≤n from hi)
  rw[Nat.add_mul]at this
  omega
 have hm:(i*z.size+j) % z.size=j:=by rw[Nat.add_comm,Nat.add_mul_mod_self_right,Nat.mod_eq_of_lt hjl]
 simp only[madeCells,Array.toList_map,List.getElem?_map,Array.toList_range,List.getElem?_range hlt,Option.map_some,hm]
 rw[getElem!_pos z j hjl]
 have:=(Array.getElem?_eq_some_iff.1 hj).2
 simp[this]
theorem Qm (hti:Ao C.P ti) (h1:BB ti) (t:TypeId) (x y:Operand) (ho:o.op= .makeSlice t x y) (hk:Dn C.M ti t (AP ti s 3 x) (AP ti s 3 y) fresh k):∃out,k out∧A0 C o fresh s h out:=by
 unfold Dn at hk
 obtain⟨q1,n,hx,hk⟩:=B6.1 hk
 obtain⟨q2,m,hy,hk⟩:=B6.1 hk
 obtain⟨q,hq,hk⟩:=AF.1 hk
 split at hk
 rotate_left
 ·exact hk.elim
 rename_i e hd
 obtain⟨j,hj,hk⟩:=AF.1 hk
 obtain⟨hsz,hk⟩:=AA.1 hk
 have hsz:0<j.size:=by simp[Nat.blt]at hsz;omega
 split at hk
 rotate_left
 ·exact hk.elim
 rename_i ds hds
 obtain⟨hlk,rows,hrows,own,hk⟩:=hk
 obtain⟨rfl,h0,hmx,hby⟩:=(C.M.lock_iff _).1 hlk
 obtain⟨N,rfl⟩:∃N:Nat,n=N:=⟨n.toNat,by omega⟩
 simp only[Int.toNat_natCast]at hrows
 obtain⟨hul,ii,j1,j2,j3,j4,j5,j6,j7⟩:=hti e j hj
 obtain⟨d1,d2⟩:=Vx hds
 have hNmx:N≤maxLen:=by simp[maxLen];omega
 have hrow:(rowOf (AU j.desc) ds).cells=ds∧(rowOf (AU j.desc) ds).isAgg=AU j.desc:=by
  refine EV (fun d hd=>?_) (fun e'=>?_)
  ·obtain⟨q,hq⟩:=List.mem_iff_getElem?.1 hd
   have hlt:=(List.getElem?_eq_some_iff.1 hq).1
   obtain⟨d',e1,e2⟩:=d2 q _ (List.getElem?_eq_getElem (show q<j.zc.length by omega))
   rw[hq]at e1
   cases e1
   exact (IT (h:=h) e2).2
  ·rw[d1,j6];exact h1 _ _ hj e'
 have hfit:∀r∈rows,r.fits (AU j.desc) j.size:=by
  intro r hr
  rw[←hrows]at hr
  obtain rfl:=List.eq_of_mem_replicate hr
  refine⟨hrow.2,by rw[hrow.1,d1,j6],fun c hc=>?_⟩
  rw[hrow.1]at hc
  obtain⟨q,hq⟩:=List.mem_iff_getElem?.1 hc
  have hlt:=(List.getElem?_eq_some_iff.1 hq).1
  obtain⟨d',e1,e2⟩:=d2 q _ (List.getElem?_eq_getElem (show q<j.zc.length by omega))
  rw[hq]at e1
  cases e1
  exact (IT (h:=h) e2).2
 have hlen:rows.length=N:=by rw[←hrows];simp
 -- a cell of a row
 have cell:∀(i:Nat) r (q:Nat) c,rows[i]?=some r→r.cells[q]?=some c→∃u c0,(madeCells j.zero.cells (N*j.size)).toList[i*j.size+q]?=some u∧zD c0=some c∧SZ c0 u:=by
  intro i r q c hi hq
  have hil:i<N:=by rw[←hlen];exact (List.getElem?_eq_some_iff.1 hi).1
  obtain rfl:rowOf (AU j.desc) ds=r:=by
   rw[←hrows]at hi
   exact (List.eq_of_mem_replicate (List.mem_of_getElem? hi)).symm
  rw[hrow.1]at hq
  have hlt:=(List.getElem?_eq_some_iff.1 hq).1
  obtain⟨u0,hz⟩:∃u0,j.zero.cells[q]?=some u0:=⟨_,Array.getElem?_eq_getElem (by omega)⟩
  obtain⟨d',e1,e2⟩:=d2 q _ (List.getElem?_eq_getElem (show q<j.zc.length by omega))
  rw[hq]at e1
  cases e1
  refine⟨u0,_,?_,e2,j7 q _ _ (List.getElem?_eq_getElem (by omega)) hz⟩
  have:=O6 (n:=N) hil hz
  rw[j5]at this
  exact this
 cases own with
 | false=>
  refine⟨_,hk,?_⟩
  rintro F σs σh a w Q ⟨g,R⟩ hs hrd hF hdst
  have hxv:=AI ti 3 x R (s:=s) (fun t ht=>hs t (by subst ht;simp[ho,Op.operands]))
  have hyv:=AI ti 3 y R (s:=s) (fun t ht=>hs t (by subst ht;simp[ho,Op.operands]))
  rw[hx]at hxv
  rw[hy]at hyv
  have hxv:=ET hxv
  have hyv:=ET hyv
  have ht:=(hti t _ hq).1
  rw[hd]at ht
  obtain⟨w',hrun,hown,hgrow⟩:=run_make_full (P:=C.P) w w.heap.size t e ii j.zero j.size ht j1 j4 j2 q1 q2 N (by rw[j3];have h:((j.bytes*N:Nat):Int)≤281474976710656:=(by rw[Int.natCast_mul];exact hby);omega) hNmx (Nat.le_refl _)
  have hown':w'.ownsRow w.heap.size e j.size (.slice (some ⟨w.heap.size,0,none⟩) N N) rows.length (madeCells j.zero.cells (N*j.size)).toList:=by rw[hlen];exact hown
  obtain⟨R',hrel⟩:=R.plain hgrow hsz hown' hfit (fun i r q c hi hq=>by
   obtain⟨u,c0,h3,h4,h5⟩:=cell i r q c hi hq
   refine⟨u,h3,?_⟩
   have hr:=Dk (w:=w) (Z:=Al (zone g σh) C.X) (g:=g) (h:=σh) h5
   have ho:=((IT (h:=σh) h4).1.rel R.heap List.nodup_nil hr)
   exact ho.nI fun b q' hb=>by obtain⟨i,hi,_⟩:=hb;exact absurd hi (by simp))
  unfold Oper.wp
  rw[show execOp a.eval o=Next.value<$>Instr.makeSlice t (a.eval x) (a.eval y)from by simp[execOp,ho],hxv,hyv]
  rw[Sem.run_map,hrun]
  refine⟨g,(R'.put hdst (v:=.v (.c (.tl (AU j.desc) j.size rows))) ⟨hrel,⟨some ⟨w.heap.size,0,none⟩,by rw[hlen]⟩⟩).AW (fun n hn=>hn.1)⟩
 | true=>
  refine⟨_,hk,?_⟩
  rintro F σs σh a w Q ⟨g,R⟩ hs hrd hF hdst
  have hxv:=AI ti 3 x R (s:=s) (fun t ht=>hs t (by subst ht;simp[ho,Op.operands]))
  have hyv:=AI ti 3 y R (s:=s) (fun t ht=>hs t (by subst ht;simp[ho,Op.operands]))
  rw[hx]at hxv
  rw[hy]at hyv
  have hxv:=ET hxv
  have hyv:=ET hyv
  have ht:=(hti t _ hq).1
  rw[hd]at ht
  obtain⟨w',hrun,hown,hgrow⟩:=run_make_full (P:=C.P) w w.heap.size t e ii j.zero j.size ht j1 j4 j2 q1 q2 N (by rw[j3];have h:((j.bytes*N:Nat):Int)≤281474976710656:=(by rw[Int.natCast_mul];exact hby);omega) hNmx (Nat.le_refl _)
  have hho:Holds w' .row j.size (.slice (some ⟨w.heap.size,0,none⟩) N N) rows.length (madeCells j.zero.cells (N*j.size)).toList:=by
   rw[hlen]
   refine⟨e,hown.1,?_⟩
   rcases hown.2 with h3 | ⟨q,cap,cur,h3,_,h4⟩
   ·exact .inl h3
   ·exact .inr ⟨q,cap,cur,h3,Nat.zero_le _,h4⟩
  have hblk:∀b,b<w.heap.size→w'.heap[b]?=w.heap[b]?:=fun b hb=>hgrow.block b hb (by simp)
  obtain⟨g',R',hrel⟩:=R.SR (T0:=[]) (v:=.slice (some ⟨w.heap.size,0,none⟩) N N) (kd:=.row) (ag:=AU j.desc) (w':=w') (by simp) (hF 0 (by omega)) ⟨hgrow.os,hgrow.tape,hgrow.output,hgrow.size⟩ (fun b hb _=>hblk b hb) hsz hho
   (T:=fun _ _ _=>False) (S:=fun _=>False) ⟨hfit,by simp[size_madeCells,hlen],fun i r q c hi hq=>by
    obtain⟨u,c0,h3,h4,h5⟩:=cell i r q c hi hq
    refine⟨u,h3,?_⟩
    have hr:=Dk (w:=w) (Z:=Al (zone g σh) C.X) (g:=g) (h:=σh) h5
    have ho:=((IT (h:=σh) h4).1.rel R.heap List.nodup_nil hr)
    have hemp:∀b,¬∃i∈([]:List Id),BC (g i) b:=fun b ⟨i,hi,_⟩=>absurd hi (by simp)
    exact (ho.same (w':=w') fun b hb=>(hemp b hb).elim).congr fun b=>⟨fun hb=>hemp b hb,fun hb=>hb.elim⟩,fun _ _ _ h=>h.elim,fun _ _ _ _ _ h=>h.elim,fun _ _ _ h=>h.elim⟩
   (fun b hb=>hb.elim) (fun b hb=>.inr (by simp[blk]at hb;omega)) (fun _ _ _ h=>h.elim)
  unfold Oper.wp
  rw[show execOp a.eval o=Next.value<$>Instr.makeSlice t (a.eval x) (a.eval y)from by simp[execOp,ho],hxv,hyv]
  rw[Sem.run_map,hrun]
  exact⟨g',(R'.put hdst (v:=.v (.c (.ow (.loc fresh)))) hrel).AW (fun n hn=>⟨hn.1,fun e=>hn.2 (by omega)⟩)⟩
def Ga (mn:Bool) (x y:AV) (k:Out→Prop):Prop:=
 Cy x fun q a=>Cy y fun q' b=>Ay (decide (q=q'))<| ∃z:Int,(match mn with
  | true=>if b<a then b else a
  | false=>if b>a then b else a)=z∧k ⟨.v (.d (.int q z)),[],[]⟩
theorem Ph (mn:Bool) (t t':TypeId) (x y:Operand) (ho:o.op= .call {callee:=.builtin (if mn then .min else .max),args:=#[x,y],argTypes:=#[t,t']}) (hk:Ga mn (AP ti s t x) (AP ti s t' y) k):∃out,k out∧A0 C o fresh s h out:=by
 unfold Ga at hk
 obtain⟨q,a0,hx,hk⟩:=B6.1 hk
 obtain⟨q',b0,hy,hk⟩:=B6.1 hk
 replace hk:=AA.1 hk
 obtain⟨hq,z,hz,hk⟩:=hk
 have hq:=of_decide_eq_true hq
 subst hq
 refine⟨_,hk,AG fun F σs σh g a w R hs _=>?_⟩
 have hxv:=AI ti t x R (s:=s) (fun t ht=>hs t (by subst ht;simp[ho,Op.operands,Call.operands]))
 have hyv:=AI ti t' y R (s:=s) (fun t ht=>hs t (by subst ht;simp[ho,Op.operands,Call.operands]))
 rw[hx]at hxv
 rw[hy]at hyv
 have hxv:=ET hxv
 have hyv:=ET hyv
 refine⟨.int q z,?_,.int _ _⟩
 cases mn with
 | true=>
  subst hz
  have:=run_min_int2 (P:=C.P) (w:=w) #[t,t'] o.type q q a0 b0
  simp[execOp,ho,resolve,hxv,hyv,invoke,builtin,this]
 | false=>
  subst hz
  have:=run_max_int2 (P:=C.P) (w:=w) #[t,t'] o.type q q a0 b0
  simp[execOp,ho,resolve,hxv,hyv,invoke,builtin,this]
end
end Go.AM
namespace Go.AM
open Go Go.RowKit
theorem O7 (ro:Option Nat):(A7 ro).round=ro:=by cases ro<;>rfl
theorem B9 (ro:Option Nat) (f:FuncId):(A7 ro).fn f:=by cases ro<;>trivial
theorem Bo (ro:Option Nat):(A7 ro).depth.isSome=true→1≤(0:Nat):=by cases ro<;>intro h<;>cases h
theorem CL {ro:Option Nat}{n:Nat}{P:Program}{f:FuncId}{args:Array Value}{w:World}{R:Ending→World→Prop}(h:Calls P f args w R):CallsIn (A7 ro) n P f args w R:=by
 cases ro with
 | none=>exact callsIn_wide.2 h
 | some l=>exact CallsIn.inRound l (callsIn_wide.2 h)
theorem Qn {ro:Option Nat}{n:Nat}{P:Program}{row:String}{args:Array Value}{w:World}{R:Value→World→Prop}(h:Rows P row args w R):RowsIn (A7 ro) n P row args w R:=by
 intro c cs _
 obtain⟨v,w',hr,hs⟩:=h c cs
 refine⟨v,w',hr,?_⟩
 cases ro with
 | none=>exact stepsIn_wide.2 hs
 | some l=>exact stepsIn_wide.2 hs
theorem O8 {ro:Option Nat}{n m:Nat}{P:Program}{l:Nat}{f:FuncId}{tmps:Array Value}{assign body:Code}{w:World}{R:Ending→World→Prop}(h:RoundIn Fence.wide m P l f tmps assign body w R):RoundIn (A7 ro) n P l f tmps assign body w R:=by
 refine⟨B9 ro f,fun c cs _=>?_⟩
 have:=h.2 c cs (room_wide _)
 cases ro with
 | none=>exact this
 | some l=>exact this
theorem HZ {ro:Option Nat}{P:Program}{o:Oper}{a:Act}{w:World}{next:Act→World→Prop}{Q:Exit→Act→World→Prop}(hd:∀c,o.op≠ .defer c) (h:o.wp P a w next Q):o.wpIn (A7 ro) 0 P a w next Q:=by
 refine⟨fun f _=>B9 ro f,?_⟩
 rw[Oper.semAt_eq _ _ _ hd]
 unfold Oper.wp at h
 cases hr:(execOp a.eval o).run P w with
 | ok n w'=>
  rw[hr]at h
  cases n with
  | value v=>exact h
  | skip=>exact h
  | enter f args=>
   refine⟨Bo ro,CL (h.mono ?_)⟩
   intro e w'' he
   cases e<;>exact he
  | row r args=>exact⟨Bo ro,Qn h⟩
  | defer d=>exact h
  | _=>exact h.elim
 | halt q w'=>
  rw[hr]at h
  cases q with
  | panic v=>exact h
  | _=>exact h.elim
structure El (B:Nat→Prop) (w w':World):Prop where
 os:w'.os=w.os
 tape:w'.tape=w.tape
 output:w'.output=w.output
 size:w.heap.size≤w'.heap.size
 block:∀b,b<w.heap.size→¬B b→w'.heap[b]?=w.heap[b]?
theorem El.cell {B:Nat→Prop}{w w':World}(A:El B w w') {b o:Nat}{u:Value}(h:w.cell? ⟨b,o,none⟩=some u) (hb:¬B b):w'.cell? ⟨b,o,none⟩=some u:=by
 have hlt:=World.block_lt_of_cell? w ⟨b,o,none⟩ h
 have:=A.block b hlt hb
 simp only[World.cell?]at h ⊢
 rw[this];exact h
section
variable {C C':Cx}{F:Nat→Prop}{s:AN}{h h':AE}{g:AL}{a a':Act}{w w':World}
theorem AR.SS (R:AR C F s h g a w) {B:Nat→Prop}(A:El B w w') (hM:C'.M=C.M) (hnt:C'.nt=C.nt) (hh0:∀i o,h' i=some o→h i=some o∨o= .gone)
  (hB:∀b o,B b→Al (zone g h) C.X b o) (hBo:∀i ob b,h' i=some ob→EM (g i) ob b→¬B b)
  (hX:∀b o,C'.X b o→Al (zone g h) C.X b o∨w.heap.size≤b) (hX1:∀b o,C'.X b o→b<w'.heap.size) (hX2:∀i ob b o,h' i=some ob→EM (g i) ob b→¬C'.X b o)
  (hw0:C'.w0=w') (hZ0:∀b o,zone g h' b o→C'.Z0 b o) (hg0:∀j,CQ (C'.g0 (.ext j)) (g (.ext j))) (ht:a'.tmps=a.tmps) (hd:(C.M.cl=false→a'.defers=C'.D.map DJ)∧(C.M.cl=true→a'.defers=a.defers))
  (hF:∀n,F n→h' (.loc n)=none):AR C' F s h' g a' w':=by
 have hh:∀i ob b,h' i=some ob→EM (g i) ob b→h i=some ob:=by
  intro i ob b hi hb
  rcases hh0 i ob hi with h1 | rfl
  ·exact h1
  ·exact hb.elim
 have hzs:∀b o,zone g h' b o→zone g h b o:=fun b o ⟨i,ob,hi,hz⟩=>⟨i,ob,hh i ob b hi hz.F7,hz⟩
 have E:Gp w (Al (zone g h) C.X) g h w' (Al (zone g h') C'.X) g h':=by
  refine⟨fun b o u hu hn=>⟨A.cell hu (fun hb=>hn (hB b o hb)),?_⟩,fun _ _ _=>rfl,fun _ _ _=>rfl,fun _ h=>h,fun i n sz e _ hi=>⟨n,Nat.le_refl _,(hh0 _ _ hi).resolve_right (by simp),fun _=>rfl⟩,fun _ h=>h,fun i _ hl=>⟨?_,rfl⟩⟩
  ·rintro (hz | hz)
   ·exact hn (.inl (hzs b o hz))
   ·rcases hX b o hz with hz | hz
    ·exact hn hz
    ·have:=World.block_lt_of_cell? w ⟨b,o,none⟩ hu
     simp at this
     omega
  ·cases ho:h' i with
   | none=>rw[ho]at hl;cases hl
   | some ob=>
    rw[ho]at hl
    rcases hh0 i ob ho with h1 | rfl
    ·rw[h1];exact hl
    ·cases hl
 have hdf:DH w' (Al (zone g h') C'.X) g C'.M.cl (s DT) a'.defers C'.D:=by
  rw[hM]
  cases hc:C.M.cl with
  | false=>exact hd.1 hc
  | true=>
   have:=E.gD R.defers
   rw[hd.2 hc]
   rw[hc]at this
   exact this
 refine⟨by rw[ht,hnt];exact R.size,hdf,fun t=>by rw[ht];exact E.UO (R.slots t),⟨fun i ob hi=>?_,fun i j oi oj b hi hj bi bj=>R.heap.sep i j oi oj b (hh i oi b hi bi) (hh j oj b hj bj) bi bj,hX2⟩,by rw[hw0];exact BZ.refl _ _,hg0,
  fun i ob b o hi hz=>.inl (hZ0 b o ⟨i,ob,hi,hz⟩),by rw[hw0];exact hX1,fun n hn=>⟨(R.free n hn).1,hF n hn⟩⟩
 rcases hh0 i ob hi with h1 | rfl
 ·refine (R.heap.objs i ob h1).mM E fun b hb=>?_
  exact A.block b ((R.heap.objs i ob h1).lt hb) (hBo i ob b hi hb)
 ·trivial
structure DV (C C':Cx):Prop where
 M:C'.M=C.M
 nt:C'.nt=C.nt
 ro:C'.ro=C.ro
 X:∀b o,C.X b o→C'.X b o
 frame:BZ C.Z0 C.w0 C'.w0
 Z0:∀b o,C'.Z0 b o→C.Z0 b o∨C.w0.heap.size≤b
 ext:∀j,CQ (C.g0 (.ext j)) (C'.g0 (.ext j))
 same:C.ro≠none→C'.D=C.D
 marks:∃ds,C'.D=ds++C.D∧∀r∈ds,C.w0.heap.size≤r∧∀o,C'.X r o
theorem DV.refl (C:Cx):DV C C:=⟨rfl,rfl,rfl,fun _ _ h=>h,BZ.refl _ _,fun _ _ h=>.inl h,fun _=>.refl _,fun _=>rfl,[],rfl,by simp⟩
theorem BZ.then {Z Z':Ad}{a b c:World}(h:BZ Z a b) (k:BZ Z' b c) (hz:∀p o,Z' p o→Z p o∨a.heap.size≤p):BZ Z a c:=by
 refine⟨k.os.trans h.os,k.tape.trans h.tape,k.output.trans h.output,Nat.le_trans h.size k.size,fun p hp hn=>?_,fun p o u hu hn=>?_⟩
 ·refine (k.block p (Nat.lt_of_lt_of_le hp h.size) fun o ho=>?_).trans (h.block p hp hn)
  rcases hz p o ho with h1 | h1
  ·exact hn o h1
  ·omega
 ·refine k.cell p o u (h.cell p o u hu hn) fun ho=>?_
  rcases hz p o ho with h1 | h1
  ·exact hn h1
  ·have:=World.block_lt_of_cell? a ⟨p,o,none⟩ hu
   simp at this
   omega
theorem DV.trans {A B C:Cx}(h:DV A B) (k:DV B C):DV A C:=by
 obtain⟨ds,e1,h1⟩:=h.marks
 obtain⟨es,e2,h2⟩:=k.marks
 refine⟨k.M.trans h.M,k.nt.trans h.nt,k.ro.trans h.ro,fun b o hx=>k.X b o (h.X b o hx),h.frame.then k.frame h.Z0,fun b o hz=>?_,fun j=>(h.ext j).trans (k.ext j),fun hr=>(k.same (by rw[h.ro];exact hr)).trans (h.same hr),es++ds,by rw[e2,e1,List.append_assoc],fun r hr=>?_⟩
 ·rcases k.Z0 b o hz with h3 | h3
  ·exact h.Z0 b o h3
  ·exact .inr (Nat.le_trans h.frame.size h3)
 ·rcases List.mem_append.1 hr with h3 | h3
  ·exact⟨Nat.le_trans h.frame.size (h2 r h3).1,(h2 r h3).2⟩
  ·exact⟨(h1 r h3).1,fun o=>k.X r o ((h1 r h3).2 o)⟩
theorem DV.down (L:DV C C') (R:AR C' F s h g a w):BZ C.Z0 C.w0 w∧(∀j,CQ (C.g0 (.ext j)) (g (.ext j)))∧∀i ob b o,h i=some ob→BL (g i) ob b o→C.Z0 b o∨C.w0.heap.size≤b:=by
 refine⟨L.frame.then R.frame L.Z0,fun j=>(L.ext j).trans (R.ext j),fun i ob b o hi hz=>?_⟩
 rcases R.within i ob b o hi hz with h1 | h1
 ·exact L.Z0 b o h1
 ·exact .inr (Nat.le_trans L.frame.size h1)
theorem AR.kept (R:AR C F s h g a w) {b:Nat}{o:Obj}(hb:C.w0.heap[b]?=some o) (hz:∀p,¬C.Z0 b p):w.heap[b]?=some o∧∀p,¬zone g h b p:=by
 have hlt:b<C.w0.heap.size:=(Array.getElem?_eq_some_iff.1 hb).1
 refine⟨(R.frame.block b hlt hz).trans hb,?_⟩
 rintro p ⟨i,ob,hi,h1⟩
 rcases R.within i ob b p hi h1 with h2 | h2
 ·exact hz p h2
 ·omega
end
theorem map_id' {α:Type}{f:α→α}{l:List α}(h:∀x∈l,f x=x):l.map f=l:=by
 induction l with
 | nil=>rfl
 | cons x l ih=>simp[h x (by simp),ih (fun y hy=>h y (by simp[hy]))]
theorem FC.CK (c:FC):c.Ar (fun i=>i)=c:=by cases c<;>rfl
theorem CV.CK (c:CV):c.Ar (fun i=>i)=c:=by
 cases c with
 | fz f cs=>simp only[CV.Ar];congr 1;exact map_id' fun y _=>FC.CK y
 | _=>simp[CV.Ar]
theorem V1.CK (c:V1):c.Ar (fun i=>i)=c:=by
 cases c with
 | d x=>rfl
 | c x=>simp[V1.Ar,CV.CK]
 | agg cs=>simp only[V1.Ar];congr 1;exact map_id' fun x _=>CV.CK x
theorem AV.CK (c:AV):c.Ar (fun i=>i)=c:=by
 cases c with
 | u=>rfl
 | v y=>simp[AV.Ar,V1.CK]
 | t ys=>simp only[AV.Ar];congr 1;exact map_id' fun y _=>V1.CK y
 | df f cs rows=>simp only[AV.Ar];congr 1;exact map_id' fun y _=>FC.CK y
theorem AB.CK (c:AB):c.Ar (fun i=>i)=c:=by
 have hc:∀cs:List CV,cs.map (CV.Ar fun i=>i)=cs:=fun cs=>map_id' fun x _=>CV.CK x
 cases c with
 | cells cs=>simp only[AB.Ar,hc]
 | tok=>rfl
 | map kt et es=>rfl
 | arr=>simp only[AB.Ar,hc]
 | tree kd ag sz rows foc=>cases foc<;>simp[AB.Ar,hc]
 | pmap n1 sz n rows foc=>cases foc<;>simp[AB.Ar]
 | part=>rfl
 | fnl f cs rows=>simp only[AB.Ar];congr 1;exact map_id' fun y _=>FC.CK y
 | gone=>rfl
 | rnd r sl=>simp only[AB.Ar];congr 1;exact map_id' fun x _=>by simp[AV.CK]
 | rndX j=>rfl
theorem AR.UP {C:Cx}{F:Nat→Prop}{s:AN}{h:AE}{g:AL}{a:Act}{w:World}(R:AR C F s h g a w) {n:Nat}(hf:F n) (L:Loop) (r:Unit→RF) (sl:List (Nat×AV))
  (h1:L.state= .ready) (h2:L.pending=none) (h3:L.params=(r ()).params) (h4:L.assign=(r ()).assign) (h5:L.body=(r ()).body) (h6:L.tmps.size=(r ()).nt)
  (h7:∀t,An w (Al (zone g h) C.X) g h (AH sl t) (L.tmps.getD t undef)):
  AR C (fun k=>F k∧k≠n) s (AJ h (.loc n) (.rnd r sl)) (Ah g (.loc n) (.map (some w.heap.size))) a (w.alloc (.loop L)):=by
 have hX:∀b o,C.X b o→b<w.heap.size:=fun b o hx=>Nat.lt_of_lt_of_le (R.xs b o hx) R.frame.size
 obtain⟨hgn,hhn⟩:=R.free n hf
 have hne:∀{i:Id} {v:Value},g i=v→v≠undef→i≠ .loc n:=by
  rintro i v hv hu rfl
  exact hu (hv▸hgn)
 have E:Gp w (Al (zone g h) C.X) g h (w.alloc (.loop L)) (Al (zone (Ah g (.loc n) (.map (some w.heap.size))) (AJ h (.loc n) (.rnd r sl))) C.X)
   (Ah g (.loc n) (.map (some w.heap.size))) (AJ h (.loc n) (.rnd r sl)):=by
  have now:∀{i:Id},isTu (g i)→i≠ .loc n:=by
   rintro i hi rfl
   rw[hgn]at hi
   exact Aw hi
  refine⟨fun b o u hu hz=>?_,fun i b hb=>?_,fun i q hq=>?_,fun i hi=>?_,fun i k sz e' hi hk=>?_,fun i hi=>by simpa [Ah,now hi] using hi,
   fun i hi hk=>⟨by simpa [AJ,now hi] using hk,by simp[Ah,now hi]⟩⟩
  ·have hlt:=World.block_lt_of_cell? w ⟨b,o,none⟩ hu
   refine⟨(World.cell?_alloc_lt w _ ⟨b,o,none⟩ hlt).trans hu,?_⟩
   rintro (⟨i,ob,hi,h1⟩ | hx)
   ·by_cases hin:i= .loc n
    ·subst hin
     simp only[AJ,if_true,Option.some.injEq]at hi
     subst hi
     have:=BC.map (q:=w.heap.size) (by simpa [Ah,BL] using h1)
     simp at hlt
     omega
    ·simp only[AJ,Ah,if_neg hin]at hi h1
     exact hz (.inl ⟨i,ob,hi,h1⟩)
   ·exact hz (.inr hx)
  ·exact if_neg (hne hb (by simp[undef]))
  ·exact if_neg (hne hq (by simp[undef]))
  ·have:i≠ .loc n:=by rintro rfl;rw[hgn]at hi;exact hi
   simpa [Ah,this] using hi
  ·have:i≠ .loc n:=by rintro rfl;rw[hgn]at hi;exact hi
   refine⟨k,Nat.le_refl _,by simpa [AJ,this] using hk,fun _=>by simp[Ah,this]⟩
 refine R.step (F':=fun k=>F k∧k≠n) (fun i=>i= .loc n) E ?_ ?_ ?_ ?_ ?_ ?_ ?_ ?_
 ·exact⟨rfl,rfl,rfl,by simp,fun b hb _=>Below.heap_alloc w _ b hb,fun b o u hu _=>(World.cell?_alloc_lt w _ ⟨b,o,none⟩ (World.block_lt_of_cell? w ⟨b,o,none⟩ hu)).trans hu⟩
 ·intro i hi
  simp[AJ,Ah,hi]
 ·intro i o b _ hi hb
  exact Below.heap_alloc w _ b ((R.heap.objs i o hi).lt hb)
 ·rintro i o rfl ho
  simp[AJ]at ho
  subst ho
  exact⟨w.heap.size,L,by simp[Ah],heap_alloc_new w _,h1,h2,h3,h4,h5,h6,fun t=>E.UO (h7 t)⟩
 ·rintro i o b p rfl ho hb
  simp[AJ]at ho
  subst ho
  have:=BC.map (q:=w.heap.size) (by simpa [Ah,BL] using hb)
  exact .inr (by omega)
 ·rintro i j _ _ _ rfl rfl _ _ _ _
  rfl
 ·intro j hj
  exact absurd hj (by simp)
 ·rintro k ⟨hk,hkn⟩
  have:=R.free k hk
  simp[Ah,AJ,hkn,this]
def FK:Option Nat→Code
 | none=>.ret
 | some id=>.exit id
abbrev Jump:=Option (Option Nat)
structure Pj (l:Nat) (L:Loop) (w:World) (X:Ad) (g:AL) (pre:List AB) (jump:Jump) (post new:List AB) (w':World) (g':AL):Prop where
 heap:C9 w' X g' (Bi post new)
 frame:BZ (fun b o=>zone g (Ae pre) b o∨b=l) w w'
 record:w'.heap[l]?=some (.loop {L with state:=if jump.isNone then .ready else .done,pending:=jump.map FK})
 ext:∀j,CQ (g (.ext j)) (g' (.ext j))
 within:∀i ob b o,Bi post new i=some ob→BL (g' i) ob b o→zone g (Ae pre) b o∨w.heap.size≤b
 none:∀k,new.length≤k→g' (.loc k)=undef
def Em (ps:Array Tmp) (vals tmps:Array Value):Array Value:=(ps.zip vals).foldl (fun t (p,v)=>t.setIfInBounds p v) tmps
def Gv (P:Program) (I:Inv) (r:RF) (sl:List (Nat×AV)) (args:List V1) (pre:List AB) (Q:Jump→List AB→List AB→Prop):Prop:=
 args.length=r.params.size∧
 ∀(l:Nat) (L:Loop) w X g (vals:Array Value),(∀b o,X b o→b<w.heap.size)→(∀o,X l o)→w.heap[l]?=some (.loop L)→L.state= .ready→L.pending= .none→L.params=r.params→L.assign=r.assign→L.body=r.body→L.tmps.size=r.nt→
  I.at w (Al (zone g (Ae pre)) X)→C9 w X g (Ae pre)→(∀n,g (.loc n)=undef)→vals.size=args.length→
  (∀(j:Nat) x v,args[j]?=some x→vals[j]?=some v→Ag w (Al (zone g (Ae pre)) X) g (Ae pre) x v)→
  (∀t,An w (Al (zone g (Ae pre)) X) g (Ae pre) (AH sl t) (L.tmps.getD t undef))→
  RoundIn Fence.wide 0 P l L.fn (Em L.params vals L.tmps) L.assign L.body w fun e w'=>
   ∃jump g' post new,Q jump post new∧e= .returned (.bool jump.isNone)∧Pj l L w X g pre jump post new w' g'
def D8 (j:Jump) (r:Unit→RF) (sl:List (Nat×AV)):AB:=
 match j with
 | none=>.rnd r sl
 | some x=>.rndX x
theorem Ui {P:Program}{I:Inv}{r:Unit→RF}{sl:List (Nat×AV)}{args:List V1}{pre:List AB}{Q:Jump→List AB→List AB→Prop}(hK:Gv P I (r ()) sl args pre Q)
  (hQ:∀j post new,Q j post new→BI pre post∧new.length≤31) {w:World} {X:Ad} {g:AL} {vals:Array Value} (hX:∀b o,X b o→b<w.heap.size)
  (hI:I.at w (Al (zone g (Ae (pre++[.rnd r sl]))) X)) (RH:C9 w X g (Ae (pre++[.rnd r sl]))) (hgl:∀n,g (.loc n)=undef) (hsz:vals.size=args.length)
  (hargs:∀(j:Nat) x v,args[j]?=some x→vals[j]?=some v→Ag w (Al (zone g (Ae (pre++[.rnd r sl]))) X) g (Ae (pre++[.rnd r sl])) x v):
  ∃l L,g (.ext pre.length)= .map (some l)∧w.heap[l]?=some (.loop L)∧L.params.size=args.length∧
   RoundIn Fence.wide 0 P l L.fn (Em L.params vals L.tmps) L.assign L.body w fun e w'=>
    ∃v g' res post new,(∃j post0,Q j post0 new∧res= .v (.d (.bool j.isNone))∧post=post0++[D8 j r sl])∧e= .returned v∧Bq w X g (pre++[.rnd r sl]) res post new v w' g':=by
 let n:=pre.length
 let hs:AE:=Ae pre
 let hb:AE:=Ae (pre++[.rnd r sl])
 have hrec:hb (.ext n)=some (.rnd r sl):=by
  show (pre++[AB.rnd r sl])[n]?=_
  simp[n]
 obtain⟨l,L,hv,hl,l1,l2,l3,l4,l5,l6,l7⟩:=RH.objs _ _ hrec
 have sub:∀i o,hs i=some o→hb i=some o∧i≠ .ext n:=by
  intro i o hi
  cases i with
  | loc k=>simp[hs,Ae]at hi
  | ext j=>
   have hi:pre[j]?=some o:=hi
   have hlt:=(List.getElem?_eq_some_iff.1 hi).1
   refine⟨?_,by simp[n];omega⟩
   show (pre++_)[j]?=some o
   rw[List.getElem?_append_left hlt];exact hi
 have cas:∀i o,hb i=some o→hs i=some o∨(i= .ext n∧o= .rnd r sl):=by
  intro i o hi
  cases i with
  | loc k=>simp[hb,Ae]at hi
  | ext j=>
   have hi:(pre++[AB.rnd r sl])[j]?=some o:=hi
   by_cases hj:j<n
   ·rw[List.getElem?_append_left hj]at hi;exact .inl hi
   ·rw[List.getElem?_append_right (by omega)]at hi
    have:j - pre.length=0:=by
     rcases Nat.eq_zero_or_pos (j - pre.length)with h | h
     ·exact h
     ·rw[List.getElem?_eq_none (by simp;omega)]at hi;cases hi
    rw[this]at hi
    exact .inr ⟨by congr 1;omega,by simpa using hi.symm⟩
 have lz:∀b,BC (g (.ext n)) b↔b=l:=fun b=>by
  rw[hv]
  exact⟨fun h=>h.map.symm,fun h=>by subst h;exact .inl rfl⟩
 let X2:Ad:=fun b o=>X b o∨b=l
 have zs:∀b o,zone g hs b o→zone g hb b o:=fun b o ⟨i,ob,hi,h1⟩=>⟨i,ob,(sub i ob hi).1,h1⟩
 have z1:∀b o,Al (zone g hs) X2 b o→Al (zone g hb) X b o:=by
  rintro b o (h | h | h)
  ·exact .inl (zs b o h)
  ·exact .inr h
  ·exact .inl ⟨.ext n,_,hrec,(lz b).2 h⟩
 have z2:∀b o,Al (zone g hb) X b o→Al (zone g hs) X2 b o:=by
  rintro b o (⟨i,ob,hi,h1⟩ | h)
  ·rcases cas i ob hi with hi | ⟨rfl,rfl⟩
   ·exact .inl ⟨i,ob,hi,h1⟩
   ·exact .inr (.inr ((lz b).1 h1))
  ·exact .inr (.inl h)
 have tk:∀i k sz e,hs i=some (.tok k sz e)→hb i=some (.tok k sz e):=fun i k sz e hi=>(sub i _ hi).1
 have live:∀i,isLive (hs i)=true→isLive (hb i)=true:=fun i hi=>by
  cases hc:hs i with
  | none=>rw[hc]at hi;cases hi
  | some o=>rw[(sub i o hc).1];rw[hc]at hi;exact hi
 have notl:∀i o b,hs i=some o→EM (g i) o b→b≠l:=by
  rintro i o b hi hb rfl
  exact (sub i o hi).2 (RH.sep i (.ext n) o _ b (sub i o hi).1 hrec hb ((lz b).2 rfl))
 have RS:C9 w X2 g hs:=by
  refine⟨fun i o hi=>?_,fun i j oi oj b hi hj bi bj=>RH.sep i j oi oj b (sub i oi hi).1 (sub j oj hj).1 bi bj,fun i oi b o hi bi hx=>?_⟩
  ·exact BH.pull (r:=fun i=>i) (g:=g) (h:=hb) z1 (fun _=>rfl) tk live (by rw[AB.CK];exact RH.objs i o (sub i o hi).1)
  ·rcases hx with hx | hx
   ·exact RH.apart i oi b o (sub i oi hi).1 bi hx
   ·exact notl i oi b hi bi hx
 refine⟨l,L,hv,hl,by rw[l3];exact hK.1.symm,?_⟩
 refine (hK.2 l L w X2 g vals (fun b o hx=>?_) (fun o=>.inr rfl) hl l1 l2 l3 l4 l5 l6 (hI.mono z1) RS hgl hsz (fun j x v hx hvv=>?_) (fun t=>?_)).mono ?_
 ·rcases hx with hx | rfl
  ·exact hX b o hx
  ·exact (Array.getElem?_eq_some_iff.1 hl).1
 ·exact Ag.pull (r:=fun i=>i) (g:=g) (h:=hb) z1 (fun _=>rfl) tk live (by rw[V1.CK];exact hargs j x v hx hvv)
 ·exact An.pull (r:=fun i=>i) (g:=g) (h:=hb) z1 (fun _=>rfl) tk live (by rw[AV.CK];exact l7 t)
 rintro e w' ⟨jump,g',post,new,hq,rfl,RP⟩
 obtain⟨hk,hnew⟩:=hQ jump post new hq
 have plen:post.length=pre.length:=Ei hk
 have hgn:g' (.ext n)= .map (some l):=by
  rw[(RP.ext n).eq (by rw[hv];rintro⟨_,_,h,_⟩;cases h)];exact hv
 let hs2:AE:=Bi post new
 let hb2:AE:=Bi (post++[D8 jump r sl]) new
 have hrec2:hb2 (.ext n)=some (D8 jump r sl):=by
  show (post++[D8 jump r sl])[n]?=_
  simp[n,plen]
 have sub2:∀i o,hs2 i=some o→hb2 i=some o∧i≠ .ext n:=by
  intro i o hi
  cases i with
  | loc k=>exact⟨hi,by simp⟩
  | ext j=>
   have hi:post[j]?=some o:=hi
   have hlt:=(List.getElem?_eq_some_iff.1 hi).1
   refine⟨?_,by simp[n];omega⟩
   show (post++_)[j]?=some o
   rw[List.getElem?_append_left hlt];exact hi
 have cas2:∀i o,hb2 i=some o→hs2 i=some o∨(i= .ext n∧o=D8 jump r sl):=by
  intro i o hi
  cases i with
  | loc k=>exact .inl hi
  | ext j=>
   have hi:(post++[D8 jump r sl])[j]?=some o:=hi
   by_cases hj:j<n
   ·rw[List.getElem?_append_left (by omega)]at hi;exact .inl hi
   ·rw[List.getElem?_append_right (by omega)]at hi
    have:j - post.length=0:=by
     rcases Nat.eq_zero_or_pos (j - post.length)with h | h
     ·exact h
     ·rw[List.getElem?_eq_none (by simp;omega)]at hi;cases hi
    rw[this]at hi
    exact .inr ⟨by congr 1;omega,by simpa using hi.symm⟩
 have lz2:∀b o,BL (g' (.ext n)) (D8 jump r sl) b o↔b=l:=fun b o=>by
  have:BL (g' (.ext n)) (D8 jump r sl) b o↔BC (g' (.ext n)) b:=by cases jump<;>exact Iff.rfl
  rw[this,hgn]
  exact⟨fun h=>h.map.symm,fun h=>by subst h;exact .inl rfl⟩
 have ob2:∀b,EM (g' (.ext n)) (D8 jump r sl) b↔b=l:=fun b=>by
  have:EM (g' (.ext n)) (D8 jump r sl) b↔BC (g' (.ext n)) b:=by cases jump<;>exact Iff.rfl
  rw[this,hgn]
  exact⟨fun h=>h.map.symm,fun h=>by subst h;exact .inl rfl⟩
 have y1:∀b o,Al (zone g' hs2) X2 b o→Al (zone g' hb2) X b o:=by
  rintro b o (⟨i,ob,hi,h1⟩ | h | h)
  ·exact .inl ⟨i,ob,(sub2 i ob hi).1,h1⟩
  ·exact .inr h
  ·exact .inl ⟨.ext n,_,hrec2,(lz2 b o).2 h⟩
 have y2:∀b o,Al (zone g' hb2) X b o→Al (zone g' hs2) X2 b o:=by
  rintro b o (⟨i,ob,hi,h1⟩ | h)
  ·rcases cas2 i ob hi with hi | ⟨rfl,rfl⟩
   ·exact .inl ⟨i,ob,hi,h1⟩
   ·exact .inr (.inr ((lz2 b o).1 h1))
  ·exact .inr (.inl h)
 have tk2:∀i k sz e,hb2 i=some (.tok k sz e)→hs2 i=some (.tok k sz e):=by
  intro i k sz e hi
  rcases cas2 i _ hi with h | ⟨_,h⟩
  ·exact h
  ·cases jump<;>cases h
 have live2:∀i,isLive (hb2 i)=true→isLive (hs2 i)=true:=by
  intro i hi
  cases hc:hb2 i with
  | none=>rw[hc]at hi;cases hi
  | some o=>
   rw[hc]at hi
   rcases cas2 i o hc with h | ⟨_,rfl⟩
   ·rw[h];exact hi
   ·cases jump<;>cases hi
 have gext:∀i,¬isTu (g i)→g i≠undef→g' i=g i:=by
  intro i ht hu
  cases i with
  | ext j=>exact (RP.ext j).eq ht
  | loc k=>exact absurd (hgl k) hu
 have E:Gp w (Al (zone g hb) X) g hb w' (Al (zone g' hb2) X) g' hb2:=by
  refine⟨fun b o u hu hn=>⟨RP.frame.cell b o u hu ?_,fun hy=>?_⟩,fun i b hb=>gext i (fun ht=>Sm (hb▸ht)) (by rw[hb];simp[undef]),fun i q hq=>gext i (fun ht=>Sn (hq▸ht)) (by rw[hq];simp[undef]),fun i hi=>?_,fun i k sz e hi hn=>?_,fun i hi=>?_,fun i hi hn=>?_⟩
  ·rintro (h | rfl)
   ·exact hn (.inl (zs b o h))
   ·exact hn (z1 _ _ (.inr (.inr rfl)))
  ·rcases y2 b o hy with⟨i,ob,hi,h1⟩ | h1
   ·rcases RP.within i ob b o hi h1 with h2 | h2
    ·exact hn (.inl (zs b o h2))
    ·have:=World.block_lt_of_cell? w ⟨b,o,none⟩ hu
     simp at this
     omega
   ·exact hn (z1 _ _ (.inr h1))
  ·rw[gext i (Cb hi) (by rintro e;rw[e]at hi;exact hi)];exact hi
  ·have hgi:=gext i (Cb hi) (by rintro e;rw[e]at hi;exact hi)
   have hn:=tk2 i k sz e hn
   cases i with
   | loc q=>rw[hgl q]at hi;exact hi.elim
   | ext j=>
    obtain⟨o0,h6,h7⟩:=Dm hk hn
    cases o0<;>simp[sameKind]at h7
    obtain⟨rfl,rfl,rfl⟩:=h7
    exact⟨_,Nat.le_refl _,(sub (.ext j) _ h6).1,fun _=>hgi⟩
  ·cases i with
   | ext j=>exact (RP.ext j).isTu hi
   | loc q=>rw[hgl q]at hi;exact (Aw hi).elim
  ·cases i with
   | loc q=>rw[hgl q]at hi;exact (Aw hi).elim
   | ext j=>
    refine⟨?_,(RP.ext j).gval⟩
    have hn:=live2 _ hn
    cases ho:hs2 (.ext j)with
    | none=>rw[ho]at hn;cases hn
    | some ob=>
     rw[ho]at hn
     obtain⟨o0,h6,h7⟩:=Dm hk ho
     rw[(sub (.ext j) _ h6).1]
     exact Jo h7 hn
 have frame:BZ (zone g hb) w w':=RP.frame.weaken fun b o h=>by
  rcases h with h | rfl
  ·exact zs b o h
  ·exact⟨.ext n,_,hrec,(lz _).2 rfl⟩
 have outl:∀i ob b,hs2 i=some ob→EM (g' i) ob b→b≠l:=by
  rintro i ob b hi hb rfl
  exact RP.heap.apart i ob b 0 hi hb (.inr rfl)
 refine⟨.bool jump.isNone,g',_,_,new,⟨jump,post,hq,rfl,rfl⟩,rfl,⟨⟨fun i o hi=>?_,fun i j oi oj b hi hj bi bj=>?_,fun i oi b o hi bi hx=>?_⟩,AX.bool _,frame,fun j=>RP.ext j,fun i ob b o hi hz=>?_,RP.none⟩⟩
 ·rcases cas2 i o hi with h | ⟨rfl,rfl⟩
  ·exact BH.pull (r:=fun i=>i) (g:=g') (h:=hs2) y2 (fun _=>rfl) tk2 live2 (by rw[AB.CK];exact RP.heap.objs i o h)
  ·have hloop:=RP.record
   cases jump with
   | none=>exact⟨l,_,hgn,hloop,rfl,rfl,l3,l4,l5,l6,fun t=>E.UO (l7 t)⟩
   | some x=>exact⟨l,_,hgn,hloop,rfl,by cases x<;>rfl⟩
 ·rcases cas2 i oi hi with h1 | ⟨rfl,rfl⟩<;>rcases cas2 j oj hj with h2 | ⟨rfl,rfl⟩
  ·exact RP.heap.sep i j oi oj b h1 h2 bi bj
  ·exact absurd ((ob2 b).1 bj) (outl i oi b h1 bi)
  ·exact absurd ((ob2 b).1 bi) (outl j oj b h2 bj)
  ·rfl
 ·rcases cas2 i oi hi with h1 | ⟨rfl,rfl⟩
  ·exact RP.heap.apart i oi b o h1 bi (.inl hx)
  ·have:=(ob2 b).1 bi
   subst this
   exact RH.apart (.ext n) _ b o hrec ((lz b).2 rfl) hx
 ·rcases cas2 i ob hi with h1 | ⟨rfl,rfl⟩
  ·rcases RP.within i ob b o h1 hz with h2 | h2
   ·exact .inl (zs b o h2)
   ·exact .inr h2
  ·have:=(lz2 b o).1 hz
   subst this
   exact .inl ⟨.ext n,_,hrec,(lz _).2 rfl⟩
end Go.AM
