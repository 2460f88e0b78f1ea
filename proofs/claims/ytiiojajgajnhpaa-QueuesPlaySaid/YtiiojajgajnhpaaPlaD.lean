/- Part of a proof. No condition. (Part 4.) -/
import Derived.DataReads
import Derived.Test.YtiiojajgajnhpaaProg
import Derived.KernelRfl
import Derived.Test.YtiiojajgajnhpaaPlaC
set_option linter.unusedVariables false
set_option linter.unusedSimpArgs false
namespace Go.AM
open Go Go.RowKit
def slotsOf:List V1→Nat→List (Nat×AV)
 | [],_=>[]
 | x::r,i=>(i,.v x)::slotsOf r (i+1)
def extsOf:List AObj→Nat→List (Id×AObj)
 | [],_=>[]
 | x::r,i=>(.ext i,x)::extsOf r (i+1)
theorem slotsOf_get:∀(l:List V1) (i t:Nat),getS (slotsOf l i) t= .u∨∃x,i≤t∧l[t - i]?=some x∧getS (slotsOf l i) t= .v x
 | [],i,t=>.inl rfl
 | x::r,i,t=>by
  show getS ((i,.v x)::slotsOf r (i+1)) t=_∨∃y,i≤t∧(x::r)[t - i]?=some y∧getS ((i,.v x)::slotsOf r (i+1)) t= .v y
  rw[getS_cons]
  simp only[]
  split
  ·subst t;exact .inr ⟨x,Nat.le_refl _,by simp,rfl⟩
  ·rcases slotsOf_get r (i+1) t with h | ⟨y,h1,h2,h3⟩
   ·exact .inl h
   ·refine .inr ⟨y,by omega,?_,h3⟩
    rw[show t - i=(t - (i+1))+1 from by omega]
    simpa using h2
theorem extsOf_get:∀(l:List AObj) (i:Nat) (x:Id) (o:AObj),getH (extsOf l i) x=some o→∃j,x= .ext j∧i≤j∧l[j - i]?=some o
 | [],i,x,o,h=>by simp[extsOf,getH]at h
 | y::r,i,x,o,h=>by
  rw[show extsOf (y::r) i=(.ext i,y)::extsOf r (i+1)from rfl,getH_cons]at h
  simp only[updO]at h
  split at h
  ·simp at h;subst h;subst x;exact⟨i,rfl,Nat.le_refl _,by simp⟩
  ·obtain⟨j,h1,h2,h3⟩:=extsOf_get r (i+1) x o h
   refine⟨j,h1,by omega,?_⟩
   rw[show j - i=(j - (i+1))+1 from by omega]
   simpa using h3
theorem extsOf_ext:∀(l:List AObj) (i j:Nat),getH (extsOf l i) (.ext (i+j))=l[j]?
 | [],i,j=>by simp[extsOf,getH]
 | y::r,i,j=>by
  rw[show extsOf (y::r) i=(.ext i,y)::extsOf r (i+1)from rfl,getH_cons]
  simp only[updO]
  cases j with
  | zero=>simp
  | succ j=>
   rw[if_neg (by simp),show i+(j+1)=i+1+j from by omega,extsOf_ext r (i+1) j]
   simp
def withRes (ti:Types) (σ:St):List ResultVar→(List V1→Prop)→Prop
 | [],K=>K []
 | .tmp t::r,K=>withV (getS σ.slots t) fun x=>withRes ti σ r fun xs=>K (x.norm::xs)
 | .cell a t::r,K=>outLoad ti t (getS σ.slots a) (getH σ.heap) fun out=>withV out.val fun x=>withRes ti σ r fun xs=>K (x.norm::xs)
def mkRes:List V1→AV
 | [x]=>.v x
 | xs=>.t xs
def renN (nm:List Id) (N:Nat):Id→Id
 | .ext j=>.ext j
 | .loc k=>match nm[k]? with
  | some n=>n
  | none=>.loc N
def isGone:AObj→Bool
 | .gone=>true
 | _=>false
theorem isGone_eq {o:AObj}(h:isGone o=true):o= .gone:=by cases o<;>first | rfl | simp[isGone]at h
def postOK (h:Heap) (r:Id→Id):List AObj→Nat→Prop
 | [],_=>True
 | o::l,j=>match isGone o with
  | true=>postOK h r l (j+1)
  | false=>h (.ext j)=some (o.ren r)∧postOK h r l (j+1)
def newOK (h:Heap) (r:Id→Id):List AObj→List Id→Prop
 | [],[]=>True
 | o::l,n::nm=>h n=some (o.ren r)∧newOK h r l nm
 | _,_=>False
def handOK (post:List AObj):List Id→Prop
 | []=>True
 | .loc _::l=>handOK post l
 | .ext j::l=>match post[j]? with
  | some o=>match isGone o with
   | true=>handOK post l
   | false=>False
  | none=>False
def Fin' (ti:Types) (rs:List ResultVar) (σ:St) (res:AV) (post new:List AObj):Prop:=
 ∃gs,gh gs σ fun σ=>withRes ti σ rs fun xs=>∃nm:List Id,nodupB nm=true∧mkRes xs=res.ren (renN nm σ.next)∧postOK (getH σ.heap) (renN nm σ.next) post 0∧newOK (getH σ.heap) (renN nm σ.next) new nm∧handOK post nm
theorem postOK_get {h:Heap}{r:Id→Id}:∀{l:List AObj}{i j:Nat}{o:AObj},postOK h r l i→l[j]?=some o→o= .gone∨h (.ext (i+j))=some (o.ren r)
 | o::l,i,0,_,hp,hj=>by
  simp at hj
  subst hj
  unfold postOK at hp
  split at hp
  ·rename_i hg;exact .inl (isGone_eq hg)
  ·exact .inr hp.1
 | o::l,i,j+1,_,hp,hj=>by
  simp at hj
  have hp':postOK h r l (i+1):=by
   unfold postOK at hp
   split at hp
   ·exact hp
   ·exact hp.2
  have:=postOK_get (j:=j) hp' hj
  rw[show i+(j+1)=i+1+j from by omega]
  exact this
theorem newOK_get {h:Heap}{r:Id→Id}:∀{l:List AObj}{nm:List Id}{j:Nat}{o:AObj},newOK h r l nm→l[j]?=some o→∃n,nm[j]?=some n∧h n=some (o.ren r)
 | o::l,n::nm,0,_,hp,hj=>by simp at hj;subst hj;exact⟨n,rfl,hp.1⟩
 | o::l,n::nm,j+1,_,hp,hj=>by
  simp at hj
  obtain⟨m,h1,h2⟩:=newOK_get (j:=j) hp.2 hj
  exact⟨m,by simpa using h1,h2⟩
 | [],[],j,_,_,hj=>by simp at hj
 | [],_::_,_,_,hp,_=>hp.elim
 | _::_,[],_,_,hp,_=>hp.elim
theorem newOK_len {h:Heap}{r:Id→Id}:∀{l:List AObj}{nm:List Id},newOK h r l nm→nm.length=l.length
 | o::l,n::nm,hp=>by simp[newOK_len hp.2]
 | [],[],_=>rfl
 | [],_::_,hp=>hp.elim
 | _::_,[],hp=>hp.elim
theorem handOK_get {post:List AObj}:∀{nm:List Id}{k j:Nat},handOK post nm→nm[k]?=some (.ext j)→post[j]?=some .gone
 | [],k,j,_,h=>by simp at h
 | n::nm,0,j,hp,h=>by
  simp at h
  subst h
  simp only[handOK]at hp
  split at hp
  ·rename_i o ho
   split at hp
   ·rename_i hg;rw[ho,isGone_eq hg]
   ·exact hp.elim
  ·exact hp.elim
 | n::nm,k+1,j,hp,h=>by
  simp at h
  refine handOK_get (k:=k) ?_ h
  cases n with
  | loc=>exact hp
  | ext i=>
   simp only[handOK]at hp
   split at hp
   ·split at hp
    ·exact hp
    ·exact hp.elim
   ·exact hp.elim
section
variable {C:Cx}{ti:Types}{σ:St}{g:Ghost}{a:Act}{w:World}{F:Nat→Prop}
theorem loadVal (hti:TIok C.P ti) (h1:TIone ti) (R:RelS C F (getS σ.slots) (getH σ.heap) g a w) {p:Tmp}{t:TypeId}{k:Out→Prop}
  (hk:outLoad ti t (getS σ.slots p) (getH σ.heap) k):∃out v ad,k out∧a.tmps.getD p undef= .pointer (some ad)∧(loadVar t ad).run C.P w= .ok v w∧RelAV w (zor (zone g (getH σ.heap)) C.X) g (getH σ.heap) out.val v:=by
 obtain⟨out,hko,_,H⟩:=load_core (C:=C) hti h1 t _ hk
 obtain⟨v,hv,hr⟩:=H F _ _ g a w _ R (R.slots p) (fun _ _=>rfl)
 refine⟨out,v,?_⟩
 revert hv
 generalize a.tmps.getD p undef=u
 intro hv
 cases u with
 | pointer ad=>
  cases ad with
  | none=>simp[Instr.loadAt,Instr.sureAddr]at hv
  | some ad=>exact⟨ad,hko,rfl,by simpa [Instr.loadAt,Instr.sureAddr] using hv,hr⟩
 | _=>simp[Instr.loadAt,Instr.sureAddr]at hv
def oneRes (tmps:Array Value):ResultVar→Sem Value
 | .tmp t=>pure (tmps.getD t undef)
 | .cell a t=>do loadVar t (←asAddr (tmps.getD a undef))
theorem withRes_sound (hti:TIok C.P ti) (h1:TIone ti) (R:RelS C F (getS σ.slots) (getH σ.heap) g a w):∀(rs:List ResultVar) (K:List V1→Prop),withRes ti σ rs K→
  ∃xs vs,K xs∧(rs.mapM (oneRes a.tmps)).run C.P w= .ok vs w∧vs.length=xs.length∧∀(j:Nat) x v,xs[j]?=some x→vs[j]?=some v→RelV1 w (zor (zone g (getH σ.heap)) C.X) g (getH σ.heap) x v
 | [],K,hk=>⟨[],[],hk,rfl,rfl,by simp⟩
 | .tmp t::r,K,hk=>by
  obtain⟨y,hy,hk⟩:=withV_iff.1 hk
  obtain⟨xs,vs,h2,h3,h4,h5⟩:=withRes_sound hti h1 R r _ hk
  refine⟨y.norm::xs,a.tmps.getD t undef::vs,h2,by simp[List.mapM_cons,oneRes,h3],by simp[h4],fun j x v hx hv=>?_⟩
  match j with
  | 0=>
   simp only[List.getElem?_cons_zero,Option.some.injEq]at hx hv
   subst hx;subst hv
   have:=R.slots t
   rw[hy]at this
   exact RelV1.norm this
  | j+1=>simp at hx hv;exact h5 j x v hx hv
 | .cell p t::r,K,hk=>by
  obtain⟨out,v0,ad,hk,hp,hl,hr⟩:=loadVal hti h1 R hk
  obtain⟨y,hy,hk⟩:=withV_iff.1 hk
  obtain⟨xs,vs,h2,h3,h4,h5⟩:=withRes_sound hti h1 R r _ hk
  refine⟨y.norm::xs,v0::vs,h2,by simp only[List.mapM_cons,oneRes,hp,asAddr];simp[hl,h3],by simp[h4],fun j x v hx hv=>?_⟩
  match j with
  | 0=>
   simp only[List.getElem?_cons_zero,Option.some.injEq]at hx hv
   subst hx;subst hv
   rw[hy]at hr
   exact RelV1.norm hr
  | j+1=>simp at hx hv;exact h5 j x v hx hv
theorem results_run {fn:Func}{vs:List Value}(h:(fn.results.toList.mapM (oneRes a.tmps)).run C.P w= .ok vs w):
  (results fn a.tmps).run C.P w= .ok (if h:vs.toArray.size=1 then vs.toArray[0]else .tuple vs.toArray) w:=by
 have e:results fn a.tmps=(do let vs ←fn.results.mapM (oneRes a.tmps);pure (if h:vs.size=1 then vs[0]else .tuple vs)):=by
  unfold results
  congr 1
 rw[e,Array.mapM_eq_mapM_toList,Sem.run_bind,Sem.run_map,h]
 rfl
end
def Mach.of (P:Program) (I:Inv):Mach where
 I:=I
 P:=P
 split:=fun c A=>A c
 split_iff:=fun _ _=>Iff.rfl
 lock:=fun p=>p ()
 lock_iff:=fun _=>Iff.rfl
 eqI:=fun a b=>a==b
 eqI_eq:=fun _ _=>rfl
 ltI:=fun a b=>decide (a<b)
 ltI_eq:=fun _ _=>rfl
 leI:=fun a b=>decide (a≤b)
 leI_eq:=fun _ _=>rfl
 eqS:=fun a b=>a.toList==b.toList
 eqS_eq:=fun _ _=>rfl
 ltS:=fun a b=>Op.bytesLess a.toList b.toList
 ltS_eq:=fun _ _=>rfl
 lenI:=fun l=>l.length
 lenI_eq:=fun _=>rfl
 szI:=fun s=>s.size
 szI_eq:=fun _=>rfl
theorem finish {C:Cx}{σ:St}{g2:Ghost}{a:Act}{w':World}{X:Zone}{post new:List AObj}{nm:List Id}(R2:RelS C (fun n=>σ.next≤n) (getS σ.slots) (getH σ.heap) g2 a w') (hX:∀b o,X b o→C.X b o)
  (hnd:nm.Nodup) (hpost:postOK (getH σ.heap) (renN nm σ.next) post 0) (hnewo:newOK (getH σ.heap) (renN nm σ.next) new nm) (hhand:handOK post nm):
  RelH w' X (fun i=>g2 (renN nm σ.next i)) (heapOf2 post new)∧(∀i ob b o,heapOf2 post new i=some ob→zone1 (g2 (renN nm σ.next i)) ob b o→∃j ob',getH σ.heap j=some ob'∧zone1 (g2 j) ob' b o)∧
   (∀k,new.length≤k→g2 (renN nm σ.next (.loc k))=undef)∧
   ∀(x:AV) v,RelAV w' (zor (zone g2 (getH σ.heap)) C.X) g2 (getH σ.heap) (x.ren (renN nm σ.next)) v→RelAV w' (zor (zone (fun i=>g2 (renN nm σ.next i)) (heapOf2 post new)) X) (fun i=>g2 (renN nm σ.next i)) (heapOf2 post new) x v:=by
 have live:∀i o,heapOf2 post new i=some o→o= .gone∨getH σ.heap (renN nm σ.next i)=some (o.ren (renN nm σ.next)):=by
  intro i o hi
  cases i with
  | ext j=>have:=postOK_get hpost hi;rw[Nat.zero_add]at this;exact this
  | loc k=>
   obtain⟨n,hn,ho⟩:=newOK_get hnewo hi
   exact .inr (by simpa [renN,hn] using ho)
 have hz:∀b o,zor (zone (fun i=>g2 (renN nm σ.next i)) (heapOf2 post new)) X b o→zor (zone g2 (getH σ.heap)) C.X b o:=by
  rintro b o (⟨i,ob,hi,h1⟩ | hx)
  ·rcases live i ob hi with rfl | ho
   ·exact h1.elim
   ·exact .inl ⟨_,_,ho,zone1_ren.2 h1⟩
  ·exact .inr (hX b o hx)
 have ht:∀i n sz e,heapOf2 post new i=some (.tok n sz e)→getH σ.heap (renN nm σ.next i)=some (.tok n sz e):=fun i n sz e hi=>(live i _ hi).resolve_left (by simp)
 have hw:∀i,isLive (heapOf2 post new i)=true→isLive (getH σ.heap (renN nm σ.next i))=true:=by
  intro i hi
  cases ho:heapOf2 post new i with
  | none=>rw[ho]at hi;cases hi
  | some o=>
   rw[ho]at hi
   rcases live i o ho with rfl | h
   ·cases hi
   ·rw[h]
    exact isLive_ren.trans hi
 have hN:=R2.free σ.next (Nat.le_refl _)
 refine⟨⟨fun i o hi=>?_,fun i j oi oj b hi hj bi bj=>?_,fun i oi b o hi bi=>?_⟩,fun i ob b o hi hb=>?_,fun k hk=>?_,fun x v h=>RelAV.pull (r:=renN nm σ.next) (g:=g2) (h:=getH σ.heap) hz (fun _=>rfl) ht hw h⟩
 ·rcases live i o hi with rfl | ho
  ·trivial
  ·exact RelObj.pull (r:=renN nm σ.next) hz (fun _=>rfl) ht hw (R2.heap.objs _ _ ho)
 ·rcases live i oi hi with rfl | ho
  ·exact bi.elim
  rcases live j oj hj with rfl | ho'
  ·exact bj.elim
  have e:=R2.heap.sep _ _ _ _ b ho ho' (Obk_ren.2 bi) (Obk_ren.2 bj)
  cases i with
  | ext i=>
   cases j with
   | ext j=>simpa [renN] using e
   | loc k=>
    obtain⟨n,hn,_⟩:=newOK_get hnewo hj
    simp only[renN,hn]at e
    subst e
    have:=handOK_get hhand hn
    rw[show heapOf2 post new (.ext i)=post[i]? from rfl,this]at hi
    cases hi
    exact bi.elim
  | loc k=>
   obtain⟨n,hn,_⟩:=newOK_get hnewo hi
   cases j with
   | ext j=>
    simp only[renN,hn]at e
    subst e
    have:=handOK_get hhand hn
    rw[show heapOf2 post new (.ext j)=post[j]? from rfl,this]at hj
    cases hj
    exact bj.elim
   | loc k'=>
    obtain⟨n',hn',_⟩:=newOK_get hnewo hj
    simp only[renN,hn,hn']at e
    subst e
    rw[(List.getElem?_inj (List.getElem?_eq_some_iff.1 hn).1 hnd).1 (hn.trans hn'.symm)]
 ·rcases live i oi hi with rfl | ho
  ·exact bi.elim
  ·intro hx
   exact R2.heap.apart _ _ b o ho (Obk_ren.2 bi) (hX b o hx)
 ·rcases live i ob hi with rfl | ho
  ·exact hb.elim
  ·exact⟨_,_,ho,zone1_ren.2 hb⟩
 ·have:nm[k]?=none:=by simp[newOK_len hnewo];omega
  simp only[renN,this]
  exact hN.1
theorem leave_marks {P:Program}{fn:Func}{tmps:Array Value}{R:Ending→World→Prop}:∀(ds:List Nat) (w:World),ds.Nodup→(∀r∈ds,w.heap[r]?=some (.deferred (some [])))→
  LeavesIn Fence.wide 0 P fn tmps R [] .returning (ds.foldl (fun w r=>w.putObj r (.deferred none)) w)→LeavesInM Fence.wide 0 P fn tmps R (ds.map markOf) .returning w
 | [],w,_,_,h=>h
 | r::ds,w,hn,hd,h=>by
  refine⟨by simp,.inl ⟨r,_,rfl,run_takeDeferred (hd r (by simp)),?_⟩⟩
  refine leave_marks ds _ (List.nodup_cons.1 hn).2 (fun r' hr'=>?_) h
  exact (World.putObj_heap_other (by rintro rfl;exact (List.nodup_cons.1 hn).1 hr')).trans (hd r' (by simp[hr']))
theorem marks_apart:∀(ds:List Nat) (w:World),ApartW (fun b=>b∈ds) w (ds.foldl (fun w r=>w.putObj r (.deferred none)) w)
 | [],w=>⟨rfl,rfl,rfl,Nat.le_refl _,fun _ _ _=>rfl⟩
 | r::ds,w=>by
  have:=marks_apart ds (w.putObj r (.deferred none))
  refine⟨this.os,this.tape,this.output,by simpa using this.size,fun b hb hn=>?_⟩
  simp only[List.mem_cons,not_or]at hn
  exact (this.block b (by simpa using hb) hn.2).trans (World.putObj_heap_other hn.1)
theorem marks_size:∀(ds:List Nat) (w:World),(ds.foldl (fun w r=>w.putObj r (.deferred none)) w).heap.size=w.heap.size
 | [],_=>rfl
 | r::ds,w=>by
  have:=marks_size ds (w.putObj r (.deferred none))
  rw[World.putObj_size]at this
  exact this
theorem RelS.turned {C:Cx}{F:Nat→Prop}{s:Slots}{h:Heap}{g:Ghost}{a a':Act}{w w':World}(R:RelS C F s h g a w) {B:Nat→Prop}(A:ApartW B w w') (hs:w'.heap.size=w.heap.size) (hB:∀b o,B b→C.X b o) (hI:∀b,C.M.I.blocks b→¬B b) (ht:a'.tmps=a.tmps) (ro:Option Nat)
  (hro:∀l,ro=some l→(∃L,w'.heap[l]?=some (.loop L))∧∀o,C.X l o) (hd:a'.defers=[]):
  ∃C2:Cx,C2.M=C.M∧C2.nt=C.nt∧C2.X=C.X∧C2.ro=ro∧C2.w0=w'∧C2.Z0=zone g h∧C2.g0=g∧C2.D=[]∧RelS C2 F s h g a' w':=by
 have hX:∀b o,C.X b o→b<w.heap.size:=fun b o hx=>Nat.lt_of_lt_of_le (R.xs b o hx) R.frame.size
 have noz:∀b,(∀o,C.X b o)→∀o,¬zone g h b o:=by
  rintro b hx o ⟨i,ob,hi,hz⟩
  exact R.heap.apart i ob b o hi hz.obk (hx o)
 have hinv:C.M.I.at w' (zor (zone g h) C.X):=by
  obtain⟨i1,i2⟩:=R.inv
  refine⟨C.M.I.same (fun b hb=>A.block b (i2 b hb).1 (hI b hb)) i1,fun b hb=>⟨by rw[hs];exact (i2 b hb).1,(i2 b hb).2⟩⟩
 refine⟨{M:=C.M,nt:=C.nt,w0:=w',Z0:=zone g h,X:=C.X,g0:=g,hinv:=hinv,ro:=ro,D:=[],hro:=fun l hl=>⟨(hro l hl).1,noz l (hro l hl).2⟩,hD:=by simp,hDn:=List.nodup_nil},rfl,rfl,rfl,rfl,rfl,rfl,rfl,rfl,?_⟩
 refine R.restart A rfl rfl (fun i o hi=>.inl hi) (fun b o hb=>.inr (hB b o hb)) ?_ (fun b o hx=>.inl (.inr hx)) (fun b o hx=>by rw[hs];exact hX b o hx) (fun i ob b o hi hb hx=>R.heap.apart i ob b o hi hb hx) rfl (fun b o hz=>hz) (fun j=>.refl _) ht hd (fun n hn=>(R.free n hn).2)
 intro i ob b hi hb hBb
 exact R.heap.apart i ob b 0 hi hb (hB b 0 hBb)
theorem relS_start {C:Cx}{P:Program}{sl:List (Nat×AV)}{pre:List AObj}{g:Ghost}{a:Act}{w:World}(hsz:a.tmps.size=C.nt) (hd:a.defers=C.D.map markOf) (hsl:∀t,RelAV w (zor (zone g (heapOf pre)) C.X) g (heapOf pre) (getS sl t) (a.tmps.getD t undef))
  (RH:RelH w C.X g (heapOf pre)) (hw0:C.w0=w) (hg0:C.g0=g) (hZ:∀b o,zone g (heapOf pre) b o→C.Z0 b o) (hX:∀b o,C.X b o→b<w.heap.size) (hg:∀n,g (.loc n)=undef):RelSt C ⟨sl,extsOf pre 0,0⟩ a w:=by
 have hh:getH (extsOf pre 0)=heapOf pre:=by
  funext i
  cases i with
  | ext j=>have:=extsOf_ext pre 0 j;rw[Nat.zero_add]at this;exact this
  | loc n=>
   cases hc:getH (extsOf pre 0) (.loc n)with
   | none=>rfl
   | some o=>obtain⟨j,e,_⟩:=extsOf_get pre 0 _ o hc;simp at e
 refine⟨g,?_⟩
 rw[hh]
 exact⟨hsz,hd,hsl,RH,by rw[hw0];exact Frame'.refl _ _,fun j=>by rw[hg0];exact .refl _,fun j ob b o hj hz=>.inl (hZ b o ⟨_,_,hj,hz⟩),by rw[hw0];exact hX,fun n _=>⟨hg n,rfl⟩⟩
theorem TripK.intro {P:Program}{I:Inv}{ti:Types}(dr:Mach→Nat→Draw) (hti:TIok P ti) (h1:TIone ti) (hdr:∀C:Cx,C.P=P→DrawOK C (dr C.M C.nt)) {f:FuncId}{fn:Func}{c:Code}(hf:P.funcs[f]?=some fn) (hb:fn.body=some c)
  (hname:(fn.name== "runtime.NumGoroutine")=false) {args:List V1} {pre:List AObj} {Q:AV→List AObj→List AObj→Prop} (hargs:args.length≤fn.ntmps)
  (hx:∀M:Mach,M.P=P→M.I=I→exec M ti fn.ntmps (dr M fn.ntmps) c ⟨slotsOf args 0,extsOf pre 0,0⟩ fun e σ=>match e with
   | .exit _=>False
   | .normal=>∃res post new,Q res post new∧Fin' ti fn.results.toList σ res post new
   | .ret=>∃res post new,Q res post new∧Fin' ti fn.results.toList σ res post new):TripK P I f args pre Q:=by
 refine⟨⟨fn,c,hf,hb,hname⟩,?_⟩
 intro w X g vals hX hI RH hg hsz hargs'
 let C:Cx:={M:=Mach.of P I,nt:=fn.ntmps,w0:=w,Z0:=zone g (heapOf pre),X:=X,g0:=g,hinv:=hI,ro:=none,D:=[],hro:=fun l hl=>(by cases hl),hD:=fun r hr=>(by cases hr),hDn:=List.nodup_nil}
 have R0:RelSt C ⟨slotsOf args 0,extsOf pre 0,0⟩ {tmps:=vals++Array.replicate (fn.ntmps - vals.size) undef,defers:=[]} w:=by
  refine relS_start (P:=P) (by simp[C];omega) rfl (fun t=>?_) RH rfl rfl (fun _ _ h=>h) hX hg
  rcases slotsOf_get args 0 t with h | ⟨x,_,h2,h3⟩
  ·rw[h];trivial
  ·rw[h3]
   simp only[Nat.sub_zero]at h2
   have hlt:t<vals.size:=by rw[hsz];exact (List.getElem?_eq_some_iff.1 h2).1
   have:(vals++Array.replicate (fn.ntmps - vals.size) undef).getD t undef=vals[t]:=by
    simp[Array.getElem?_append,hlt]
   show RelV1 w _ g _ x ((vals++Array.replicate (fn.ntmps - vals.size) undef).getD t undef)
   rw[this]
   exact hargs' t x _ h2 (by simp[hlt])
 refine callsIn_wide.1 (callsIn_of_wp_marks (n:=0) hf hb trivial (wpIn_mono (exec_sound (M:=Mach.of P I) (ro:=none) hti h1 (fun C hC hn=>by
  have:=hdr C (by show C.M.P=P;rw[hC];rfl)
  rw[hC,hn]at this
  exact this) c _ _ C _ w rfl rfl rfl (hx (Mach.of P I) rfl rfl) R0) ?_))
 have fin:∀(C':Cx) (σ:St) (a':Act) (w':World),CxLe C C'→(∃res post new,Q res post new∧Fin' ti fn.results.toList σ res post new)→RelSt C' σ a' w'→
   LeavesInM Fence.wide 0 P fn a'.tmps (fun e w'=>∃v g' res post new,Q res post new∧e= .returned v∧CallPost w X g pre res post new v w' g') a'.defers .returning w':=by
  rintro C' σ0 a' w' hle ⟨res,post,new,hQ,gs,hfin⟩ R0
  obtain⟨σ,hweak,hfin⟩:=gh_weak hfin
  obtain⟨g1,R1⟩:=hweak _ _ _ R0
  rw[R1.defers]
  obtain⟨ds,hds,hds2⟩:=hle.marks
  have hds:C'.D=ds:=by rw[hds];exact List.append_nil ds
  refine leave_marks _ _ C'.hDn (fun r hr=>(R1.kept (C'.hD r hr).1 (C'.hD r hr).2).1) ?_
  have A:=marks_apart C'.D w'
  generalize hw2:C'.D.foldl (fun w r=>w.putObj r (.deferred none)) w'=w2 at A ⊢
  have hsz2:w2.heap.size=w'.heap.size:=by rw[←hw2];exact marks_size _ _
  obtain⟨C2,c1,c2,c3,c4,c5,c6,c7,c8,R2⟩:=R1.turned (a':={tmps:=a'.tmps,defers:=[]}) A hsz2 (fun b o hb=>(hds2 b (hds▸hb)).2 o) (fun b hb hd=>(R1.inv.2 b hb).2 0 (.inr ((hds2 b (hds▸hd)).2 0))) rfl none (fun l hl=>by cases hl) rfl
  have hti2:TIok C2.P ti:=by show TIok C2.M.P ti;rw[c1,hle.M];exact hti
  have hP:C2.P=P:=by show C2.M.P=P;rw[c1,hle.M];rfl
  obtain⟨xs,vs,⟨nm,hnd,hres,hpost,hnewo,hhand⟩,hrun,hlen,hrel⟩:=withRes_sound (C:=C2) hti2 h1 R2 _ _ hfin
  obtain⟨f1,f2,f3,f4⟩:=finish (X:=X) R2 (fun b o hx=>by rw[c3];exact hle.X b o hx) (nodupB_iff.1 hnd) hpost hnewo hhand
  obtain⟨d1,d2,d3⟩:=hle.down R1
  have hrr:=results_run (C:=C2) hrun
  rw[hP]at hrr
  refine⟨_,hrr,_,fun i=>g1 (renN nm σ.next i),res,post,new,hQ,rfl,⟨f1,?_,?_,fun j=>d2 j,fun i ob b o hi hb=>?_,f3⟩⟩
  ·refine f4 res _ ?_
   rw[←hres]
   have other:xs.length≠1→RelAV w2 (zor (zone g1 (getH σ.heap)) C2.X) g1 (getH σ.heap) (.t xs) (.tuple vs.toArray):=fun _=>
    ⟨vs.toArray,rfl,by simpa using hlen,fun j x v hx hv=>hrel j x v hx (by simpa using hv)⟩
   match xs,vs,hlen,hrel,other with
   | [x],[v],_,hrel,_=>exact hrel 0 x v rfl rfl
   | [],[],_,_,other=>exact other (by simp)
   | x::y::xs,v::u::vs,hl,_,other=>
    have:¬(v::u::vs).toArray.size=1:=by simp
    simp only[dif_neg this]
    exact other (by simp)
  ·exact d1.then (Z':=fun b _=>b∈C'.D) ⟨A.os,A.tape,A.output,A.size,fun b hb hn=>A.block b hb (hn 0),fun b o u hu hn=>A.cell hu hn⟩ (fun p o hp=>.inr (hds2 p (hds▸hp)).1)
  ·obtain⟨j,ob',hj,hz⟩:=f2 i ob b o hi hb
   exact d3 j ob' b o hj hz
 intro e a' w' hq
 cases e with
 | normal=>obtain⟨C',hle,σ,hf',hr⟩:=hq;exact fin C' σ a' w' hle hf' hr
 | ret=>obtain⟨C',hle,σ,hf',hr⟩:=hq;exact fin C' σ a' w' hle hf' hr
 | exit id=>obtain⟨C',hle,σ,hf',hr⟩:=hq;exact hf'.elim
 | goto l=>exact hq.elim
 | panic ch=>exact hq.elim
 | outgrown=>exact hq.elim
end Go.AM
namespace Go.AM
open Go Go.RowKit
def putPs:List Tmp→List V1→List (Nat×AV)→List (Nat×AV)
 | p::ps,x::xs,s=>putPs ps xs ((p,.v x)::s)
 | _,_,s=>s
theorem putAll_size {ps:Array Tmp}{vals tmps:Array Value}:(putAll ps vals tmps).size=tmps.size:=by
 unfold putAll
 rw[←Array.foldl_toList]
 generalize (ps.zip vals).toList=l
 induction l generalizing tmps with
 | nil=>rfl
 | cons x l ih=>
  simp only[List.foldl_cons]
  exact ih.trans (by simp)
theorem putPs_rel {w:World}{Z:Zone}{g:Ghost}{h:Heap}:∀{ps:List Tmp}{xs:List V1}{vs:List Value}{s:List (Nat×AV)}{tmps:Array Value},xs.length=ps.length→vs.length=xs.length→(∀p∈ps,p<tmps.size)→
  (∀(j:Nat) x v,xs[j]?=some x→vs[j]?=some v→RelV1 w Z g h x v)→(∀t,RelAV w Z g h (getS s t) (tmps.getD t undef))→
  ∀t,RelAV w Z g h (getS (putPs ps xs s) t) (((ps.zip vs).foldl (fun t x=>t.setIfInBounds x.1 x.2) tmps).getD t undef)
 | [],[],[],s,tmps,_,_,_,_,hs=>hs
 | p::ps,x::xs,v::vs,s,tmps,h1,h2,h3,h4,hs=>by
  refine putPs_rel (ps:=ps) (xs:=xs) (vs:=vs) (by simpa using h1) (by simpa using h2) (fun q hq=>by simpa using h3 q (by simp[hq])) (fun j x v hx hv=>h4 (j+1) x v (by simpa using hx) (by simpa using hv)) ?_
  intro t
  rw[getS_cons]
  simp only[]
  split
  ·subst t
   have:=h3 p (by simp)
   rw[Array.getD_eq_getD_getElem?,Array.getElem?_setIfInBounds_self_of_lt this]
   exact h4 0 x v rfl rfl
  ·rename_i hne
   rw[Array.getD_eq_getD_getElem?,Array.getElem?_setIfInBounds_ne (Ne.symm hne),←Array.getD_eq_getD_getElem?]
   exact hs t
 | [],_::_,_,_,_,h1,_,_,_,_=>by simp at h1
 | _::_,[],_,_,_,h1,_,_,_,_=>by simp at h1
 | [],[],_::_,_,_,_,h2,_,_,_=>by simp at h2
 | _::_,_::_,[],_,_,_,h2,_,_,_=>by simp at h2
def jumpOf:AExit→Jump
 | .normal=>none
 | .ret=>some none
 | .exit id=>some (some id)
def FinR (σ:St) (post new:List AObj):Prop:=
 ∃gs,gh gs σ fun σ=>∃nm:List Id,nodupB nm=true∧postOK (getH σ.heap) (renN nm σ.next) post 0∧newOK (getH σ.heap) (renN nm σ.next) new nm∧handOK post nm
theorem RoundK.intro {P:Program}{I:Inv}{ti:Types}(dr:Mach→Nat→Draw) (hti:TIok P ti) (h1:TIone ti) (hdr:∀C:Cx,C.P=P→DrawOK C (dr C.M C.nt)) {r:RF}{sl:List (Nat×AV)}{args:List V1}{pre:List AObj}{Q:Jump→List AObj→List AObj→Prop}
  (hlen:args.length=r.params.size) (hps:allB (fun p=>Nat.blt p r.nt) r.params.toList=true)
  (hx:∀M:Mach,M.P=P→M.I=I→exec M ti r.nt (dr M r.nt) r.assign ⟨putPs r.params.toList args sl,extsOf pre 0,0⟩ fun e σ=>match e with
   | .normal=>exec M ti r.nt (dr M r.nt) r.body σ fun e σ=>∃post new,Q (jumpOf e) post new∧FinR σ post new
   | _=>False):RoundK P I r sl args pre Q:=by
 refine⟨hlen,?_⟩
 intro l L w X g vals hX hXl hl l1 l2 l3 l4 l5 l6 hI RH hg hsz hargs hsl
 have hlt:l<w.heap.size:=(Array.getElem?_eq_some_iff.1 hl).1
 have noz:∀{X:Zone} {w:World} {g:Ghost} {h:Heap},RelH w X g h→(∀o,X l o)→∀o,¬zone g h l o:=by
  rintro X w g h RH hx o ⟨i,ob,hi,hz⟩
  exact RH.apart i ob l o hi hz.obk (hx o)
 let C:Cx:={M:=Mach.of P I,nt:=r.nt,w0:=w,Z0:=zone g (heapOf pre),X:=X,g0:=g,hinv:=hI,ro:=some l,D:=[],hro:=fun l' hl'=>(by cases hl';exact⟨⟨L,hl⟩,noz RH hXl⟩),hD:=fun r hr=>(by cases hr),hDn:=List.nodup_nil}
 have hdr':∀C':Cx,C'.M=Mach.of P I→C'.nt=r.nt→DrawOK C' (dr (Mach.of P I) r.nt):=fun C' hC hn=>by
  have:=hdr C' (by show C'.M.P=P;rw[hC];rfl)
  rw[hC,hn]at this
  exact this
 have R0:RelSt C ⟨putPs r.params.toList args sl,extsOf pre 0,0⟩ {tmps:=putAll L.params vals L.tmps,defers:=[]} w:=by
  refine relS_start (P:=P) (by show (putAll L.params vals L.tmps).size=r.nt;rw[putAll_size];exact l6) rfl (fun t=>?_) RH rfl rfl (fun _ _ h=>h) hX hg
  have:=putPs_rel (ps:=r.params.toList) (xs:=args) (vs:=vals.toList) (s:=sl) (tmps:=L.tmps) (by simpa using hlen) (by simpa using hsz) (fun p hp=>by
   have:=allB_iff.1 hps p hp
   rw[l6]
   exact Nat.lt_of_succ_le (by simpa [Nat.blt] using this)) (fun j x v hx hv=>hargs j x v hx (by simpa using hv)) hsl t
  show RelAV _ _ _ _ _ ((putAll L.params vals L.tmps).getD t undef)
  unfold putAll
  rw[l3,←Array.foldl_toList,Array.toList_zip]
  exact this
 have h1x:=hx (Mach.of P I) rfl rfl
 refine roundIn_of_wpIn (F:=Fence.wide) trivial ?_
 rw[l4,l5]
 refine wpIn_mono (exec_sound (M:=Mach.of P I) (ro:=some l) hti h1 hdr' r.assign _ _ C _ w rfl rfl rfl h1x R0) ?_
 intro e a1 w1 hq
 cases e with
 | normal=>
  obtain⟨C1,hle,σ1,hk1,g1,R1⟩:=hq
  obtain⟨d1,d2,d3⟩:=hle.down R1
  have hXl1:∀o,C1.X l o:=fun o=>hle.X l o (hXl o)
  have hl1:w1.heap[l]?=some (.loop L):=(d1.block l hlt (noz RH hXl)).trans hl
  have hlt1:l<w1.heap.size:=(Array.getElem?_eq_some_iff.1 hl1).1
  refine⟨w1.putObj l (.loop {L with state:=.busy}),run_beginRound hl1 l1,?_⟩
  have A:ApartW (fun b=>b=l) w1 (w1.putObj l (.loop {L with state:=.busy})):=⟨rfl,rfl,rfl,by simp,fun b _ hb=>World.putObj_heap_other hb⟩
  have hl2:(w1.putObj l (.loop {L with state:=.busy})).heap[l]?=some (.loop {L with state:=.busy}):=World.putObj_heap_same hlt1
  obtain⟨C2,c1,c2,c3,c4,c5,c6,c7,c8,R2⟩:=R1.turned (a':={tmps:=a1.tmps,defers:=[]}) A World.putObj_size (fun b o hb=>by subst hb;exact hXl1 o) (fun b hb hd=>(R1.inv.2 b hb).2 0 (.inr (by subst hd;exact hXl1 0))) rfl (some l) (fun l' hl'=>by cases hl';exact⟨⟨_,hl2⟩,hXl1⟩) rfl
  have ha1:a1={tmps:=a1.tmps,defers:=[]}:=by
   have hd:=R1.defers
   rw[hle.same (by simp[C])]at hd
   show a1=⟨a1.tmps,[]⟩
   rw[←show a1.defers=[]from hd]
  rw[ha1]
  refine wpIn_mono (exec_sound (M:=Mach.of P I) (ro:=some l) hti h1 hdr' r.body σ1 _ C2 _ _ (c1.trans hle.M) (c2.trans hle.nt) c4 hk1 ⟨g1,R2⟩) ?_
  have fin:∀(e:AExit) (a2:Act) (w3:World),(∃C3,CxLe C2 C3∧∃σ,(∃post new,Q (jumpOf e) post new∧FinR σ post new)∧RelSt C3 σ a2 w3)→
    ∃v w',(Instr.endRound l ((jumpOf e).map jumpCode)).run P w3= .ok v w'∧∃jump g' post new,Q jump post new∧Ending.returned v= .returned (.bool jump.isNone)∧RoundPost l L w X g pre jump post new w' g':=by
   rintro e a2 w3 ⟨C3,hle3,σ0,⟨post,new,hQ,gs,hfin⟩,R3⟩
   obtain⟨σ,hweak,nm,hnd,hpost,hnewo,hhand⟩:=gh_weak hfin
   obtain⟨g3,R3⟩:=hweak _ _ _ R3
   obtain⟨f1,f2,f3⟩:=hle3.down R3
   have hXl3:∀o,C3.X l o:=fun o=>hle3.X l o (by rw[c3];exact hXl1 o)
   have hz2:∀o,¬C2.Z0 l o:=by rw[c6];exact noz R1.heap hXl1
   have hl3:w3.heap[l]?=some (.loop {L with state:=.busy}):=by
    have:=f1.block l (by rw[c5,World.putObj_size];exact hlt1) hz2
    rw[c5]at this
    exact this.trans hl2
   have hlt3:l<w3.heap.size:=(Array.getElem?_eq_some_iff.1 hl3).1
   refine⟨_,_,run_endRound _ hl3,?_⟩
   have A3:ApartW (fun b=>b=l) w3 (w3.putObj l (.loop {L with state:=if ((jumpOf e).map jumpCode).isNone then .ready else .done,pending:=(jumpOf e).map jumpCode})):=⟨rfl,rfl,rfl,by simp,fun b _ hb=>World.putObj_heap_other hb⟩
   obtain⟨C4,k1,k2,k3,k4,k5,k6,k7,k8,R4⟩:=R3.turned (a':={tmps:=a2.tmps,defers:=[]}) A3 World.putObj_size (fun b o hb=>by subst hb;exact hXl3 o) (fun b hb hd=>(R3.inv.2 b hb).2 0 (.inr (by subst hd;exact hXl3 0))) rfl none (fun l' hl'=>by cases hl') rfl
   obtain⟨q1,q2,q3,_⟩:=finish (X:=X) R4 (fun b o hx=>by rw[k3];exact hle3.X b o (by rw[c3];exact hle.X b o hx)) (nodupB_iff.1 hnd) hpost hnewo hhand
   have isn:((jumpOf e).map jumpCode).isNone=(jumpOf e).isNone:=by cases jumpOf e<;>rfl
   have zin:∀b o,C2.Z0 b o→zone g (heapOf pre) b o∨w.heap.size≤b:=by
    intro b o hz
    rw[c6]at hz
    obtain⟨i,ob,hi,h3⟩:=hz
    exact d3 i ob b o hi h3
   have fr:Frame' (fun b o=>zone g (heapOf pre) b o∨b=l) w (w3.putObj l (.loop {L with state:=if ((jumpOf e).map jumpCode).isNone then .ready else .done,pending:=(jumpOf e).map jumpCode})):=by
    have s1:Frame' (fun b o=>zone g (heapOf pre) b o∨b=l) w w1:=d1.weaken (fun b o h=>.inl h)
    have one:∀{a b:World},ApartW (fun b=>b=l) a b→Frame' (fun b _=>b=l) a b:=fun A=>⟨A.os,A.tape,A.output,A.size,fun b hb hn=>A.block b hb (fun e=>hn 0 e),fun b o u hu hn=>A.cell hu hn⟩
    have s2:=s1.then (one A) (fun p o h=>.inl (.inr h))
    have s3:=s2.then (by have:=f1;rw[c5]at this;exact this) (fun p o h=>(zin p o h).imp .inl id)
    exact s3.then (one A3) (fun p o h=>.inl (.inr h))
   refine⟨jumpOf e,fun i=>g3 (renN nm σ.next i),post,new,hQ,by rw[isn],⟨q1,fr,?_,fun j=>?_,fun i ob b o hi hb=>?_,q3⟩⟩
   ·rw[World.putObj_heap_same hlt3,isn]
   ·have e1:=d2 j
    have e2:=f2 j
    rw[c7]at e2
    exact e1.trans e2
   ·obtain⟨j,ob',hj,hz⟩:=q2 i ob b o hi hb
    rcases f3 j ob' b o hj hz with h | h
    ·exact zin b o h
    ·rw[c5,World.putObj_size]at h
     exact .inr (Nat.le_trans d1.size h)
  intro e a2 w3 hq
  cases e with
  | normal=>exact fin .normal a2 w3 hq
  | ret=>exact fin .ret a2 w3 hq
  | exit id=>exact fin (.exit id) a2 w3 hq
  | goto l=>exact hq.elim
  | panic ch=>exact hq.elim
  | outgrown=>exact hq.elim
 | exit id=>obtain⟨_,_,_,hk,_⟩:=hq;exact hk.elim
 | ret=>obtain⟨_,_,_,hk,_⟩:=hq;exact hk.elim
 | goto l=>exact hq.elim
 | panic ch=>exact hq.elim
 | outgrown=>exact hq.elim
end Go.AM
namespace Go.AM
open Go Go.RowKit
theorem draw_P {P:Program}{ti:Types}(hti:TIok P ti) (h1:TIone ti) (hm:P.follows .mixedOrders=true):∀C:Cx,C.P=P→DrawOK C (execDraw ti C.M C.nt):=fun C hC=>by
 have hti':TIok C.P ti:=by rw[hC];exact hti
 have hm':C.P.follows .mixedOrders=true:=by rw[hC];exact hm
 exact draw_ok hti' h1 hm'
theorem TripK.of {P:Program}{I:Inv}{ti:Types}(hti:TIok P ti) (h1:TIone ti) (hm:P.follows .mixedOrders=true) {f:FuncId}{fn:Func}{c:Code}(hf:P.funcs[f]?=some fn) (hb:fn.body=some c)
  (hname:(fn.name== "runtime.NumGoroutine")=false) {args:List V1} {pre:List AObj} {Q:AV→List AObj→List AObj→Prop} {nt:Nat} (hnt:fn.ntmps=nt) (hargs:Nat.ble args.length nt=true) {rs:List ResultVar} (hrs:fn.results.toList=rs)
  (hx:∀M:Mach,M.P=P→M.I=I→exec M ti nt (execDraw ti M nt) c ⟨slotsOf args 0,extsOf pre 0,0⟩ fun e σ=>match e with
   | .exit _=>False
   | .normal=>∃res post new,Q res post new∧Fin' ti rs σ res post new
   | .ret=>∃res post new,Q res post new∧Fin' ti rs σ res post new):TripK P I f args pre Q:=by
 subst hnt
 subst hrs
 exact TripK.intro (fun M nt=>execDraw ti M nt) hti h1 (draw_P hti h1 hm) hf hb hname (Nat.le_of_ble_eq_true hargs) hx
theorem Trip.of {P:Program}{I:Inv}{ti:Types}(hti:TIok P ti) (h1:TIone ti) (hm:P.follows .mixedOrders=true) {f:FuncId}{fn:Func}{c:Code}(hf:P.funcs[f]?=some fn) (hb:fn.body=some c)
  (hname:(fn.name== "runtime.NumGoroutine")=false) {args:List V1} {pre post new:List AObj} {res:AV} {nt:Nat} (hnt:fn.ntmps=nt) (hargs:Nat.ble args.length nt=true) {rs:List ResultVar} (hrs:fn.results.toList=rs)
  (hx:∀M:Mach,M.P=P→M.I=I→exec M ti nt (execDraw ti M nt) c ⟨slotsOf args 0,extsOf pre 0,0⟩ fun e σ=>match e with
   | .exit _=>False
   | .normal=>∃r p n,(r=res∧p=post∧n=new)∧Fin' ti rs σ r p n
   | .ret=>∃r p n,(r=res∧p=post∧n=new)∧Fin' ti rs σ r p n):Trip P I f args pre res post new:=
 TripK.of hti h1 hm hf hb hname hnt hargs hrs hx
theorem fin_go {ti:Types}{rs:List ResultVar}{σ:St}{res:AV}{post new:List AObj}(h:withRes ti σ rs fun xs=>∃nm:List Id,nodupB nm=true∧mkRes xs=res.ren (renN nm σ.next)∧postOK (getH σ.heap) (renN nm σ.next) post 0∧newOK (getH σ.heap) (renN nm σ.next) new nm∧handOK post nm):
  ∃r p n,(r=res∧p=post∧n=new)∧Fin' ti rs σ r p n:=⟨_,_,_,⟨rfl,rfl,rfl⟩,[],h⟩
theorem TripK.at {P:Program}{I:Inv}{M:Mach}{f:FuncId}{args:List V1}{pre:List AObj}{Q:AV→List AObj→List AObj→Prop}(hP:M.P=P) (hI:M.I=I) (h:TripK P I f args pre Q):TripK M.P M.I f args pre Q:=by rw[hP,hI];exact h
theorem RoundK.of {P:Program}{I:Inv}{M:Mach}(hP:M.P=P) (hI:M.I=I) {ti:Types}(hti:TIok P ti) (h1:TIone ti) (hm:P.follows .mixedOrders=true) {r:RF}{sl:List (Nat×AV)}{args:List V1}{pre:List AObj}{Q:Jump→List AObj→List AObj→Prop}{nt:Nat}{ps:List Tmp}{ca cb:Code}
  (hnt:r.nt=nt) (hpl:r.params.toList=ps) (ha:r.assign=ca) (hb:r.body=cb) (hlen:args.length=ps.length) (hps:allB (fun p=>Nat.blt p nt) ps=true)
  (hx:∀M:Mach,M.P=P→M.I=I→exec M ti nt (execDraw ti M nt) ca ⟨putPs ps args sl,extsOf pre 0,0⟩ fun e σ=>match e with
   | .normal=>exec M ti nt (execDraw ti M nt) cb σ fun e σ=>∃post new,Q (jumpOf e) post new∧FinR σ post new
   | _=>False):RoundK M.P M.I r sl args pre Q:=by
 subst hnt
 subst hpl
 subst ha
 subst hb
 rw[hP,hI]
 exact RoundK.intro (fun M nt=>execDraw ti M nt) hti h1 (draw_P hti h1 hm) (by simpa using hlen) hps hx
section
variable {M:Mach}{A:Bool→Prop}
theorem splitI {a b:Int}(h1:a=b→A true) (h0:a≠b→A false):M.split (M.eqI a b) A:=by
 rw[M.split_iff,M.eqI_eq]
 by_cases h:a=b
 ·rw[beq_iff_eq.2 h];exact h1 h
 ·rw[beq_eq_false_iff_ne.2 h];exact h0 h
theorem splitL {a b:Int}(h1:a<b→A true) (h0:b≤a→A false):M.split (M.ltI a b) A:=by
 rw[M.split_iff,M.ltI_eq]
 by_cases h:a<b
 ·rw[decide_eq_true h];exact h1 h
 ·rw[decide_eq_false h];exact h0 (by omega)
theorem splitLe {a b:Int}(h1:a≤b→A true) (h0:b<a→A false):M.split (M.leI a b) A:=by
 rw[M.split_iff,M.leI_eq]
 by_cases h:a≤b
 ·rw[decide_eq_true h];exact h1 h
 ·rw[decide_eq_false h];exact h0 (by omega)
theorem splitS {a b:ByteArray}(h1:(a.toList==b.toList)=true→A true) (h0:(a.toList==b.toList)=false→A false):M.split (M.eqS a b) A:=by
 rw[M.split_iff,M.eqS_eq]
 cases h:(a.toList==b.toList)
 ·exact h0 h
 ·exact h1 h
end
section
variable {M:Mach}{f:FuncId}{args:List V1}{fresh:Nat}{h:Heap}{k:Out→Prop}{targs:List V1}{res:AV}
theorem call_pure {P:Program}{I:Inv}(hP:M.P=P) (hI:M.I=I) (ht:Trip P I f targs [] res [] []) (he:args=targs.map (V1.ren (renM [] fresh))) (hk:k ⟨res.ren (renM [] fresh),[],[]⟩):
  M.lock fun _=>outCall M.P M.I f args fresh h k:=
 (M.lock_iff _).2 ⟨[],targs,[],res,[],[],hP▸hI▸ht,he,rfl,List.nodup_nil,by simp,trivial,by simp,hk⟩
theorem opOut_call {ti:Types}{o:Oper}{c:Call}{x:Operand}{s:Slots}(ho:o.op= .call c) (hc:c.callee= .value x) (hk:withCl h (fun h'=>opOut0 M ti o fresh s h') k):opOut M ti o fresh s h k:=by
 unfold opOut
 rw[ho]
 simp only[]
 rw[hc]
 exact .inr (.inl hk)
theorem call_go {ti:Types}{o:Oper}{c:Call}{x:Operand}{s:Slots}{X:Prop}(ho:o.op= .call c) (hc:c.callee= .value x) (hk:opOut0 M ti o fresh s h k):M.lock fun _=>opOut M ti o fresh s h k∨X:=
 (M.lock_iff _).2<| .inl<| opOut_call ho hc ⟨[],hk⟩
theorem call_in {A X:Prop}(hk:X):M.lock fun _=>A∨X:=(M.lock_iff _).2 (.inr hk)
def preOK (h:Heap) (r:Id→Id):List Id→List AObj→Prop
 | [],[]=>True
 | i::m,o::pre=>h i=some (o.ren r)∧preOK h r m pre
 | _,_=>False
theorem preOK_get {r:Id→Id}:∀{m:List Id}{pre:List AObj},preOK h r m pre→m.length=pre.length∧∀(j:Nat) i o,m[j]?=some i→pre[j]?=some o→h i=some (o.ren r)
 | [],[],_=>⟨rfl,by simp⟩
 | i::m,o::pre,hp=>by
  obtain⟨h1,h2⟩:=preOK_get hp.2
  refine⟨by simp[h1],fun j i' o' hi ho=>?_⟩
  match j with
  | 0=>simp at hi ho;subst hi;subst ho;exact hp.1
  | j+1=>simp at hi ho;exact h2 j i' o' hi ho
 | [],_::_,hp=>hp.elim
 | _::_,[],hp=>hp.elim
theorem call_with {P:Program}{I:Inv}(hP:M.P=P) (hI:M.I=I) (m:List Id) {pre post new:List AObj}(ht:Trip P I f targs pre res post new) (he:args=targs.map (V1.ren (renM m fresh))) (hm:m.Nodup)
  (hpre:preOK h (renM m fresh) m pre) (hkd:allKinds pre post) (hn:new.length≤31) (hk:k ⟨res.ren (renM m fresh),m,wrM m (renM m fresh) post++wrNew fresh (renM m fresh) 0 new⟩):
  M.lock fun _=>outCall M.P M.I f args fresh h k:=
 (M.lock_iff _).2 ⟨m,targs,pre,res,post,new,hP▸hI▸ht,he,(preOK_get hpre).1,hm,(preOK_get hpre).2,hkd,hn,hk⟩
end
theorem drawn {M:Mach}{p:Unit→Prop}{K:Prop}(hd:p ()) (hk:K):M.lock p∧K:=⟨(M.lock_iff _).2 hd,hk⟩
theorem loop_inv {M:Mach}{ex:St→(AExit→St→Prop)→Prop}{σ:St}{K:AExit→St→Prop}(ks:List Nat) (is:List Id) (nx:Nat) {T:Type}(S:T→St) (I:T→Prop) (m:T→Nat) (t0:T)
  (hI:I t0) (h0:keep ks is nx σ (·=S t0))
  (hr:∀t,I t→ex (S t) fun e σ2=>match e with
   | .normal=>∃n' σ3,n'<m t∧Weak σ2 σ3∧∃t',I t'∧n'=m t'∧σ3=S t'
   | .exit id=>K (.exit id) σ2
   | .ret=>K .ret σ2):M.lock fun _=>loopP ex σ K∨∃n,unrollP ex K n σ:=by
 refine (M.lock_iff _).2<| .inl ⟨fun n σ=>∃t,I t∧n=m t∧σ=S t,m t0,?_,?_⟩
 ·obtain⟨σ',hw,e⟩:=keep_weak h0
  exact⟨σ',hw,t0,hI,rfl,e⟩
 ·rintro n σ1 ⟨t,h1,rfl,rfl⟩
  exact hr t h1
theorem loop_next {T:Type}{m:T→Nat}{I:T→Prop}{S:T→St}{σ2:St}{k:Nat}(t':T) (ks:List Nat) (is:List Id) (nx:Nat) (hI:I t') (hm:m t'<k) (hk:keep ks is nx σ2 (·=S t')):
  ∃n' σ3,n'<k∧Weak σ2 σ3∧∃t',I t'∧n'=m t'∧σ3=S t':=by
 obtain⟨σ',hw,e⟩:=keep_weak hk
 exact⟨m t',σ',hm,hw,t',hI,rfl,e⟩
section
variable {M:Mach}{L L':List D}{N i:Int}(hN:0≤N∧L.length=N.toNat)
include hN
end
end Go.AM
namespace Go.AM
open Go Go.RowKit
inductive Shape (ti:Types):TypeId→List D→Prop where
 | bool {t x} (b:Bool) (h:ti t=some x) (hd:x.desc= .bool):Shape ti t [.bool b]
 | int {t x k} (n:Int) (h:ti t=some x) (hd:x.desc= .int k) (hw:(Lit.int k n).wf=true):Shape ti t [.int k n]
 | str {t x} (s:ByteArray) (h:ti t=some x) (hd:x.desc= .string) (hs:s.size≤maxLen):Shape ti t [.str s]
 | slice {t x e y} (rows:List D) (h:ti t=some x) (hd:x.desc= .slice e) (he:ti e=some y) (hl:rows.length≤maxLen)
   (hf:∀r∈rows,r.fits (rowD y.desc) y.size) (hr:∀r∈rows,Shape ti e r.cells):Shape ti t [.list (rowD y.desc) y.size rows]
 | struct {t x fs} (ds:List D) (h:ti t=some x) (hd:x.desc= .struct fs) (hl:ds.length=x.size) (hg:∀c∈ds,c.isAgg=false)
   (hr:∀f∈fs.toList,∀y,ti f.type=some y→Shape ti f.type ((ds.drop f.offset).take y.size)):Shape ti t ds
def chain (ti:Types):Nat→List Field→Option Nat
 | off,[]=>some off
 | off,f::r=>if f.offset=off then match ti f.type with
   | some y=>chain ti (off+y.size) r
   | none=>none
  else none
theorem chain_le {ti:Types}:∀{fs:List Field}{off tot:Nat},chain ti off fs=some tot→off≤tot∧∀f∈fs,off≤f.offset∧∃y,ti f.type=some y
 | [],off,tot,h=>by simp[chain]at h;subst h;exact⟨Nat.le_refl _,by simp⟩
 | f::fs,off,tot,h=>by
  unfold chain at h
  split at h
  ·rename_i ho
   split at h
   ·rename_i y hy
    obtain⟨h1,h2⟩:=chain_le h
    refine⟨by omega,fun f' hf'=>?_⟩
    rcases List.mem_cons.1 hf' with rfl | hf'
    ·exact⟨by omega,y,hy⟩
    ·exact⟨by have:=(h2 f' hf').1;omega,(h2 f' hf').2⟩
   ·simp at h
  ·simp at h
def plainB (ti:Types) (T:List TypeId):Bool:=
 T.all fun t=>match ti t with
  | some x=>match x.desc with
   | .bool | .int _ | .string=>x.size==1
   | .slice e=>T.contains e&&(x.size==1)&&(match ti e with
    | some y=>decide (0<y.size)&&(rowD y.desc || y.size==1)
    | none=>false)
   | .struct fs=>(chain ti 0 fs.toList==some x.size)&&fs.toList.all fun f=>T.contains f.type
   | _=>false
  | none=>false
theorem choose_list {Q:Nat→D→Prop}:∀n,(∀i,i<n→∃r,Q i r)→∃l:List D,l.length=n∧∀i r,l[i]?=some r→Q i r
 | 0,_=>⟨[],rfl,by simp⟩
 | n+1,h=>by
  obtain⟨l,h1,h2⟩:=choose_list n (fun i hi=>h i (by omega))
  obtain⟨r,hr⟩:=h n (by omega)
  refine⟨l++[r],by simp[h1],fun i r' hi=>?_⟩
  by_cases hl:i<l.length
  ·rw[List.getElem?_append_left hl]at hi;exact h2 i r' hi
  ·rw[List.getElem?_append_right (by omega)]at hi
   have hin:i=n:=by
    by_cases he:i=n
    ·exact he
    ·rw[List.getElem?_eq_none (by simp;omega)]at hi;simp at hi
   subst hin
   rw[h1]at hi
   simp at hi
   subst hi
   exact hr
def RelDs (w:World) (Z:Zone) (ds:List D) (cs:List Value):Prop:=
 ds.length=cs.length∧(∀c∈ds,c.isAgg=false)∧∀(j:Nat) c u,ds[j]?=some c→cs[j]?=some u→RelD w Z c u
theorem relDs_one {w:World}{Z:Zone}{c:D}{u:Value}(hc:c.isAgg=false) (h:RelD w Z c u):RelDs w Z [c] [u]:=
 ⟨rfl,by simpa using hc,fun j c' u' h1 h2=>by
  match j with
  | 0=>simp at h1 h2;subst h1;subst h2;exact h
  | j+1=>simp at h1⟩
theorem conv_fields {w:World}{Z:Zone}{ti:Types}{cs:List Value}:∀(fs:List Field) (off tot:Nat),chain ti off fs=some tot→tot≤cs.length→
  (∀f∈fs,∀y,ti f.type=some y→∃ds,Shape ti f.type ds∧RelDs w Z ds ((cs.drop f.offset).take y.size))→
  ∃ds,RelDs w Z ds ((cs.drop off).take (tot - off))∧∀f∈fs,∀y,ti f.type=some y→Shape ti f.type ((ds.drop (f.offset - off)).take y.size)
 | [],off,tot,h,_,_=>by
  simp[chain]at h
  subst h
  exact⟨[],⟨by simp,by simp,by simp⟩,by simp⟩
 | f::fs,off,tot,h,hl,hx=>by
  unfold chain at h
  split at h
  ·rename_i ho
   split at h
   ·rename_i y hy
    obtain⟨hle,hoff⟩:=chain_le h
    obtain⟨ds',⟨a1,a2,a3⟩,hs'⟩:=conv_fields fs _ tot h hl (fun f' hf'=>hx f' (List.mem_cons_of_mem _ hf'))
    obtain⟨p,hp,b1,b2,b3⟩:=hx f (by simp) y hy
    rw[ho]at b1 b3
    have hpl:p.length=y.size:=by rw[b1];simp;omega
    refine⟨p++ds',⟨?_,?_,?_⟩,fun f' hf' y' hy'=>?_⟩
    ·simp at a1 ⊢;omega
    ·intro c hc
     rcases List.mem_append.1 hc with hc | hc
     ·exact b2 c hc
     ·exact a2 c hc
    ·intro j c u hc hu
     rw[List.getElem?_take]at hu
     split at hu
     ·rename_i hj
      rw[List.getElem?_drop]at hu
      by_cases hjp:j<p.length
      ·rw[List.getElem?_append_left hjp]at hc
       refine b3 j c u hc ?_
       rw[List.getElem?_take,if_pos (by omega),List.getElem?_drop];exact hu
      ·rw[List.getElem?_append_right (by omega)]at hc
       refine a3 (j - p.length) c u hc ?_
       rw[List.getElem?_take,if_pos (by omega),List.getElem?_drop,←hu]
       congr 1
       omega
     ·simp at hu
    ·rcases List.mem_cons.1 hf' with rfl | hf'
     ·rw[hy]at hy'
      obtain rfl:y=y':=by simpa using hy'
      rw[ho,Nat.sub_self,List.drop_zero,List.take_append_of_le_length (by omega),List.take_of_length_le (by omega)]
      exact hp
     ·have h1:=(hoff f' hf').1
      have:=hs' f' hf' y' hy'
      rw[List.drop_append,List.drop_of_length_le (by omega),List.nil_append]
      rw[show f'.offset - off - p.length=f'.offset - (off+y.size)from by omega]
      exact this
   ·simp at h
  ·simp at h
theorem cellsOf_ti {P:Program}{ti:Types}(hti:TIok P ti) {t:TypeId}{x:TI}(h:ti t=some x):P.cellsOf t=x.size:=by
 obtain⟨_,i,h1,h2,_⟩:=hti t x h
 simp[Program.cellsOf,h1,h2]
theorem conv {H:Type}{enc:TypeId×Value→H}{P:Program}{ti:Types}(hti:TIok P ti) {T:List TypeId}(hT:plainB ti T=true) {w:World}{base:Nat}{spare:Nat→Bool}{held:Bool}{Z:Zone}(hZ:∀b o,¬Z b o):
  ∀(fuel:Nat) (t:TypeId) (cs:List Value) (d:DataW H) (ps:List MemPlace),t∈T→DataW.trod enc P w base spare held fuel t cs=some (d,ps)→∃ds,Shape ti t ds∧RelDs w Z ds cs
 | 0,t,cs,d,ps,_,h=>by simp[DataW.trod]at h
 | fuel+1,t,cs,d,ps,ht,h=>by
  have hp:=hT
  unfold plainB at hp
  have hp:=List.all_eq_true.1 hp t ht
  split at hp
  ·rename_i x hx
   have hu:=(hti t x hx).1
   have hcs:=cellsOf_ti hti hx
   split at hp
   ·rename_i hd
    rw[hd]at hu
    unfold DataW.trod at h
    simp only[hu]at h
    split at h<;>simp_all
    exact⟨_,.bool _ hx hd,relDs_one rfl (.bool _)⟩
   ·rename_i k hd
    rw[hd]at hu
    unfold DataW.trod at h
    simp only[hu]at h
    split at h<;>simp_all
    obtain⟨⟨rfl,hw⟩,_⟩:=h
    exact⟨_,.int _ hx hd hw,relDs_one rfl (.int _ _)⟩
   ·rename_i hd
    rw[hd]at hu
    unfold DataW.trod at h
    simp only[hu]at h
    split at h<;>simp_all
    exact⟨_,.str _ hx hd h.1,relDs_one rfl (.str _)⟩
   ·rename_i e hd
    rw[hd]at hu
    simp only[Bool.and_eq_true]at hp
    obtain⟨⟨he,_⟩,hp⟩:=hp
    have he:e∈T:=by simpa using he
    split at hp
    ·rename_i y hy
     simp only[Bool.and_eq_true,decide_eq_true_eq]at hp
     have hey:=cellsOf_ti hti hy
     unfold DataW.trod at h
     simp only[hu]at h
     split at h<;>rename_i hq<;>try cases hq
     ·exact⟨_,.slice [] hx hd hy (by simp) (by simp) (by simp),relDs_one rfl (relD_nil _ _)⟩
     ·rename_i a len cap
      rw[hey]at h
      split at h
      ·rename_i hg
       obtain⟨elems,he1,_⟩:=Option.bind_eq_some_iff.1 h
       have hel:elems.length=len:=by simpa using mapM_some_length he1
       have each:∀i,i<len→∃cs' ds,(w.cells? base (a.add (i*y.size)) y.size)=some cs'∧Shape ti e ds∧RelDs w Z ds cs':=by
        intro i hi
        have h1:=mapM_some_get he1 i i (by simp[hi])
        rw[List.getElem?_eq_getElem (by omega:i<elems.length)]at h1
        obtain⟨cs',h2,h3⟩:=Option.bind_eq_some_iff.1 h1
        obtain⟨ds,h4,h5⟩:=conv hti hT hZ fuel e cs' _ _ he h3
        exact⟨cs',ds,h2,h4,h5⟩
       have hspot:0<len→a.spot=none:=by
        intro hl
        obtain⟨cs',_,h2,_⟩:=each 0 hl
        obtain⟨_,h3,h4⟩:=World.cells?_some h2
        have h5:=h4 0 hp.1
        rw[List.getElem?_eq_getElem (by omega)]at h5
        simp only[Nat.zero_mul,Addr.add,if_true]at h5
        unfold World.cell? at h5
        split at h5
        ·split at h5
         ·cases h5
         ·rename_i hs;simpa using hs
        ·cases h5
       obtain⟨rows,hrl,hrows⟩:=choose_list (Q:=fun i r=>r.fits (rowD y.desc) y.size∧Shape ti e r.cells∧∀(j:Nat) c,r.cells[j]?=some c→
         ∃u,w.cell? ⟨a.block,a.off+(i*y.size+j),none⟩=some u∧RelD w Z c u) len (fun i hi=>by
        obtain⟨cs',ds,h2,h3,h4⟩:=each i hi
        obtain⟨_,h5,h6⟩:=World.cells?_some h2
        have hdl:ds.length=y.size:=h4.1.trans h5
        obtain⟨r,hr1,hr2⟩:∃r:D,r.cells=ds∧r.isAgg=rowD y.desc:=by
         cases hrw:rowD y.desc with
         | true=>exact⟨.agg ds,rfl,rfl⟩
         | false=>
          rw[hrw]at hp
          have:y.size=1:=by simpa using hp.2
          obtain⟨c,rfl⟩:=List.length_eq_one_iff.1 (hdl.trans this)
          have hc:=h4.2.1 c (by simp)
          exact⟨c,by cases c<;>first | rfl | simp[D.isAgg]at hc,hc⟩
        refine⟨r,⟨hr2,by rw[hr1,hdl],by rw[hr1];exact h4.2.1⟩,by rw[hr1];exact h3,fun j c hc=>?_⟩
        rw[hr1]at hc
        have hj:j<y.size:=by rw[←hdl];exact (List.getElem?_eq_some_iff.1 hc).1
        have h7:=h6 j hj
        have ha:(a.add (i*y.size)).add j=⟨a.block,a.off+(i*y.size+j),none⟩:=by
         have:=hspot (by omega)
         obtain⟨ab,ao,asp⟩:=a
         simp only at this
         subst this
         unfold Addr.add
         split<;>split<;>simp_all<;>omega
        rw[ha,List.getElem?_eq_getElem (by omega:j<cs'.length)]at h7
        exact⟨_,h7,h4.2.2 j c _ hc (List.getElem?_eq_getElem (by omega:j<cs'.length))⟩)
       refine⟨_,.slice rows hx hd hy (by omega) (fun r hr=>?_) (fun r hr=>?_),relDs_one rfl ?_⟩
       ·obtain⟨i,hi⟩:=List.mem_iff_getElem?.1 hr
        exact (hrows i r hi).1
       ·obtain⟨i,hi⟩:=List.mem_iff_getElem?.1 hr
        exact (hrows i r hi).2.1
       ·rw[←hrl]
        refine .list _ _ rows (some a) cap a.block a.off (fun i j=>(w.cell? ⟨a.block,a.off+(i*y.size+j),none⟩).getD undef) (by omega) hg.2.2 (fun r hr=>?_) (fun hne=>?_) (fun i r j c hr hc=>?_) (fun i r j c hr hc=>?_)
        ·obtain⟨i,hi⟩:=List.mem_iff_getElem?.1 hr
         exact (hrows i r hi).1
        ·have:=hspot (by rw[←hrl];exact List.length_pos_iff.2 hne)
         obtain⟨ab,ao,asp⟩:=a
         simp only at this
         rw[this]
        ·obtain⟨u,hu1,_⟩:=(hrows i r hr).2.2 j c hc
         rw[hu1]
         exact⟨rfl,hZ _ _⟩
        ·obtain⟨u,hu1,hu2⟩:=(hrows i r hr).2.2 j c hc
         rw[hu1]
         exact hu2
      ·cases h
     ·cases h
    ·simp at hp
   ·rename_i fs hd
    rw[hd]at hu
    simp only[Bool.and_eq_true,beq_iff_eq]at hp
    obtain⟨hch,hfs⟩:=hp
    unfold DataW.trod at h
    simp only[hu]at h
    split at h<;>rename_i hq<;>try cases hq
    ·obtain⟨xs,hxs,_⟩:=Option.map_eq_some_iff.1 h
     obtain⟨ds,h1,h2⟩:=conv_fields (w:=w) (Z:=Z) (cs:=cs) fs.toList 0 x.size hch (by omega) (fun f hf y hy=>by
      obtain⟨i,hi⟩:=List.mem_iff_getElem?.1 hf
      have h3:=mapM_some_get hxs i f hi
      have hil:i<xs.length:=by rw[mapM_some_length hxs];exact (List.getElem?_eq_some_iff.1 hi).1
      rw[List.getElem?_eq_getElem hil,cellsOf_ti hti hy]at h3
      have hfT:f.type∈T:=by simpa using List.all_eq_true.1 hfs f hf
      exact conv hti hT hZ fuel f.type _ _ _ hfT h3)
     rw[List.drop_zero,Nat.sub_zero,List.take_of_length_le (by omega)]at h1
     exact⟨ds,.struct ds hx hd (by rw[h1.1];omega) h1.2.1 (fun f hf y hy=>by simpa using h2 f hf y hy),h1⟩
    ·cases h
   ·simp at hp
  ·simp at hp
end Go.AM
namespace Go.AM
open Go
structure AllR (L L':List D) (r:Nat→Bool) (R:Bool):Prop where
 len:L.length≠L'.length→R=false
 bad:∀i,i<L.length→i<L'.length→r i=false→R=false
 good:L.length=L'.length→(∀i,i<L.length→r i=true)→R=true
theorem AllR.of (L L':List D) (r:Nat→Bool):AllR L L' r (decide (L.length=L'.length∧∀i,i<L.length→r i=true)) where
 len h:=by simp[h]
 bad i h1 h2 h:=by
  rw[decide_eq_false_iff_not]
  rintro⟨_,h3⟩
  rw[h3 i h1]at h
  cases h
 good h1 h2:=by rw[decide_eq_true_iff];exact⟨h1,h2⟩
section
variable {ti:Types}{t e:TypeId}{x y:TI}{ds:List D}{fs:Array Field}{k:IntKind}
theorem Shape.int_inv (h:Shape ti t ds) (hx:ti t=some x) (hd:x.desc= .int k):∃n,ds=[.int k n]∧(Lit.int k n).wf=true:=by
 cases h<;>simp_all
theorem Shape.str_inv (h:Shape ti t ds) (hx:ti t=some x) (hd:x.desc= .string):∃s,ds=[.str s]∧s.size≤maxLen:=by
 cases h<;>simp_all
theorem Shape.slice_inv (h:Shape ti t ds) (hx:ti t=some x) (hd:x.desc= .slice e) (hy:ti e=some y):
  ∃rows,ds=[.list (rowD y.desc) y.size rows]∧rows.length≤maxLen∧(∀r∈rows,r.fits (rowD y.desc) y.size)∧∀r∈rows,Shape ti e r.cells:=by
 cases h with
 | slice rows h1 h2 h3 h4 h5 h6=>
  rw[hx]at h1
  obtain rfl:=Option.some.inj h1
  rw[hd]at h2
  obtain rfl:=TypeDesc.slice.inj h2
  rw[hy]at h3
  obtain rfl:=Option.some.inj h3
  exact⟨rows,rfl,h4,h5,h6⟩
 | _=>simp_all
theorem Shape.struct_inv (h:Shape ti t ds) (hx:ti t=some x) (hd:x.desc= .struct fs):
  ds.length=x.size∧(∀c∈ds,c.isAgg=false)∧∀f∈fs.toList,∀y,ti f.type=some y→Shape ti f.type ((ds.drop f.offset).take y.size):=by
 cases h with
 | struct ds h1 h2 h3 h4 h5=>
  rw[hx]at h1
  obtain rfl:=Option.some.inj h1
  rw[hd]at h2
  obtain rfl:=TypeDesc.struct.inj h2
  exact⟨h3,h4,h5⟩
 | _=>simp_all
end
open Classical in
theorem AllR.same (L L':List D):AllR L L' (fun i=>decide (L[i]?=L'[i]?)) (decide (L=L')) where
 len h:=by rw[decide_eq_false_iff_not];rintro rfl;exact h rfl
 bad i h1 h2 h:=by
  rw[decide_eq_false_iff_not]at h ⊢
  rintro rfl;exact h rfl
 good h1 h2:=by
  rw[decide_eq_true_iff]
  refine List.ext_getElem? fun i=>?_
  by_cases hi:i<L.length
  ·exact of_decide_eq_true (h2 i hi)
  ·rw[List.getElem?_eq_none (by omega),List.getElem?_eq_none (by omega)]
def tyD (ti:Types) (t:TypeId):TI:=
 match ti t with
 | some x=>x
 | none=>⟨.bool,0,0,.bool false,[]⟩
theorem bytes_eq {a b:ByteArray}:(a.toList==b.toList)=true↔a=b:=by
 constructor
 ·intro h
  have h:=beq_iff_eq.1 h
  rw[ByteArray.toList_eq,ByteArray.toList_eq]at h
  exact ByteArray.ext (Array.ext' h)
 ·rintro rfl;simp
theorem bytes_ne {a b:ByteArray}:(a.toList==b.toList)=false↔a≠b:=by
 rw[←Bool.not_eq_true,bytes_eq]
end Go.AM
namespace Go.AM
open Go
section
variable {α γ:Type}
def letF (z:Int) (k:Int→Option γ):Option γ:=k z
theorem letF_inv {z:Int}{k:Int→Option γ}{r:γ}(h:letF z k=some r):∃y,z=y∧k y=some r:=⟨z,rfl,h⟩
def lenF (L:List D) (k:Int→Option γ):Option γ:=k L.length
theorem lenF_inv (M:Mach) {L:List D}{k:Int→Option γ}{r:γ}(h:lenF L k=some r):∃y,M.lenI L=y∧k y=some r:=⟨L.length,M.lenI_eq L,h⟩
def szF (s:ByteArray) (k:Int→Option γ):Option γ:=k s.size
theorem szF_inv (M:Mach) {s:ByteArray}{k:Int→Option γ}{r:γ}(h:szF s k=some r):∃y,M.szI s=y∧k y=some r:=⟨s.size,M.szI_eq s,h⟩
def getF (L:List D) (i:Int) (k:D→Option γ):Option γ:=if 0≤i then (match L[i.toNat]? with | some x=>k x | none=>none)else none
theorem getF_inv {L:List D}{i:Int}{k:D→Option γ}{r:γ}(h:getF L i k=some r):∃x,(0≤i∧L[i.toNat]?=some x)∧k x=some r:=by
 unfold getF at h
 split at h
 ·rename_i h0
  split at h
  ·rename_i x hx
   exact⟨x,⟨h0,hx⟩,h⟩
  ·cases h
 ·cases h
theorem getF_some {L:List D}{i:Int}{k:D→Option γ}{x:D}(h0:0≤i) (hx:L[i.toNat]?=some x):getF L i k=k x:=by
 unfold getF
 rw[if_pos h0,hx]
def needF (p:Prop) [Decidable p] (x:Option γ):Option γ:=if p then x else none
theorem needF_inv {p:Prop} [Decidable p] {x:Option γ}{r:γ}(h:needF p x=some r):p∧x=some r:=by
 unfold needF at h
 split at h
 ·rename_i hp
  exact⟨hp,h⟩
 ·cases h
theorem ite_t {p:Prop} [Decidable p] {x y r:Option γ}(hp:p) (h:(if p then x else y)=r):x=r:=by rwa [if_pos hp]at h
theorem ite_f {p:Prop} [Decidable p] {x y r:Option γ}(hp:¬p) (h:(if p then x else y)=r):y=r:=by rwa [if_neg hp]at h
def appF (b:Nat) (L M:List D) (k:List D→Option γ):Option γ:=if L.length+M.length≤maxLen∧(L.length+M.length)*b≤140737488355328 then k (L++M)else none
theorem appF_inv {b:Nat}{L M:List D}{k:List D→Option γ}{r:γ}(h:appF b L M k=some r):∃out,(L.length+M.length≤maxLen∧(L.length+M.length)*b≤140737488355328)∧L++M=out∧k out=some r:=by
 unfold appF at h
 split at h
 ·rename_i hb
  exact⟨_,hb,rfl,h⟩
 ·cases h
def fromF (L:List D) (l:Int) (k:List D→Option γ):Option γ:=if 0≤l∧l≤(L.length:Int)then k (L.drop l.toNat)else none
theorem fromF_inv (M:Mach) {L:List D}{l:Int}{k:List D→Option γ}{r:γ}(h:fromF L l k=some r):∃out,(0≤l∧l≤M.lenI L∧M.lenI L≤M.lenI L)∧(L.take (M.lenI L).toNat).drop l.toNat=out∧k out=some r:=by
 unfold fromF at h
 split at h
 ·rename_i hb
  exact⟨_,by rw[M.lenI_eq];exact⟨hb.1,hb.2,Int.le_refl _⟩,rfl,by rw[M.lenI_eq];simpa using h⟩
 ·cases h
open Classical in
noncomputable def nilF (L:List D) (A B:Option γ):Option γ:=if L=[]then (if A=B then B else none)else B
theorem nilF_inv {L:List D}{A B:Option γ}{r:γ}(h:nilF L A B=some r):B=some r∧(L=[]→A=some r):=by
 unfold nilF at h
 split at h
 ·split at h
  ·rename_i e;exact⟨h,fun _=>e▸h⟩
  ·cases h
 ·rename_i hn;exact⟨h,fun e=>absurd e hn⟩
theorem nilF_eq {L:List D}{A B:Option γ}(h:L=[]→A=B):nilF L A B=B:=by
 unfold nilF
 split
 ·rename_i e;rw[if_pos (h e)]
 ·rfl
theorem nil_both {L:List D}{K0 K1:Prop}(h0:K0) (h1:L=[]→K1):(L≠[]→K0)∧(L=[]→K1∧K0):=⟨fun _=>h0,fun e=>⟨h1 e,h0⟩⟩
def letL (L:List D) (k:List D→Option γ):Option γ:=k L
theorem letL_inv {L:List D}{k:List D→Option γ}{r:γ}(h:letL L k=some r):∃out,L=out∧k out=some r:=⟨L,rfl,h⟩
def scalB (L:List D):Bool:=L.all fun r=>r.cells.all fun c=>!isCon c
theorem scalB_iff {L:List D}:scalB L=true↔ScalRows L:=by
 simp[scalB,ScalRows]
def setF (L:List D) (i:Nat) (x:D) (k:List D→Option γ):Option γ:=k (L.set i x)
theorem setF_inv {L:List D}{i:Nat}{x:D}{k:List D→Option γ}{r:γ}(h:setF L i x k=some r):∃out,L.set i x=out∧k out=some r:=⟨_,rfl,h⟩
def getN (L:List D) (i:Nat) (k:D→Option γ):Option γ:=match L[i]? with | some x=>k x | none=>none
theorem getN_inv {L:List D}{i:Nat}{k:D→Option γ}{r:γ}(h:getN L i k=some r):∃x,L[i]?=some x∧k x=some r:=by
 unfold getN at h
 split at h
 ·rename_i x hx
  exact⟨x,hx,h⟩
 ·cases h
def bO0 (x:Option Unit) (k:Option γ):Option γ:=match x with | some _=>k | none=>none
theorem bO0_inv {x:Option Unit}{k:Option γ}{r:γ}(h:bO0 x k=some r):x=some ()∧k=some r:=by
 cases x with
 | none=>cases h
 | some u=>exact⟨rfl,h⟩
def bO1 {A1:Type}(x:Option (A1)) (k:A1→Option γ):Option γ:=match x with | some p=>k p | none=>none
theorem bO1_inv {A1:Type}{x:Option (A1)}{k:A1→Option γ}{r:γ}(h:bO1 x k=some r):∃a1,x=some a1∧k a1=some r:=by
 cases x with
 | none=>cases h
 | some p=>exact⟨_,rfl,h⟩
def bO2 {A1 A2:Type}(x:Option (A1×A2)) (k:A1→A2→Option γ):Option γ:=match x with | some p=>k p.1 p.2 | none=>none
theorem bO2_inv {A1 A2:Type}{x:Option (A1×A2)}{k:A1→A2→Option γ}{r:γ}(h:bO2 x k=some r):∃a1 a2,x=some (a1,a2)∧k a1 a2=some r:=by
 cases x with
 | none=>cases h
 | some p=>exact⟨_,_,rfl,h⟩
theorem inj2 {A1 A2:Type}{a1 b1:A1}{a2 b2:A2}(h:some (a1,a2)=some (b1,b2)):a1=b1∧a2=b2:=by
 cases h
 exact⟨rfl,rfl⟩
def bO3 {A1 A2 A3:Type}(x:Option (A1×A2×A3)) (k:A1→A2→A3→Option γ):Option γ:=match x with | some p=>k p.1 p.2.1 p.2.2 | none=>none
theorem bO3_inv {A1 A2 A3:Type}{x:Option (A1×A2×A3)}{k:A1→A2→A3→Option γ}{r:γ}(h:bO3 x k=some r):∃a1 a2 a3,x=some (a1,a2,a3)∧k a1 a2 a3=some r:=by
 cases x with
 | none=>cases h
 | some p=>exact⟨_,_,_,rfl,h⟩
def bO4 {A1 A2 A3 A4:Type}(x:Option (A1×A2×A3×A4)) (k:A1→A2→A3→A4→Option γ):Option γ:=match x with | some p=>k p.1 p.2.1 p.2.2.1 p.2.2.2 | none=>none
theorem bO4_inv {A1 A2 A3 A4:Type}{x:Option (A1×A2×A3×A4)}{k:A1→A2→A3→A4→Option γ}{r:γ}(h:bO4 x k=some r):∃a1 a2 a3 a4,x=some (a1,a2,a3,a4)∧k a1 a2 a3 a4=some r:=by
 cases x with
 | none=>cases h
 | some p=>exact⟨_,_,_,_,rfl,h⟩
theorem inj4 {A1 A2 A3 A4:Type}{a1 b1:A1}{a2 b2:A2}{a3 b3:A3}{a4 b4:A4}(h:some (a1,a2,a3,a4)=some (b1,b2,b3,b4)):a1=b1∧a2=b2∧a3=b3∧a4=b4:=by
 cases h
 exact⟨rfl,rfl,rfl,rfl⟩
def bO5 {A1 A2 A3 A4 A5:Type}(x:Option (A1×A2×A3×A4×A5)) (k:A1→A2→A3→A4→A5→Option γ):Option γ:=match x with | some p=>k p.1 p.2.1 p.2.2.1 p.2.2.2.1 p.2.2.2.2 | none=>none
theorem bO5_inv {A1 A2 A3 A4 A5:Type}{x:Option (A1×A2×A3×A4×A5)}{k:A1→A2→A3→A4→A5→Option γ}{r:γ}(h:bO5 x k=some r):∃a1 a2 a3 a4 a5,x=some (a1,a2,a3,a4,a5)∧k a1 a2 a3 a4 a5=some r:=by
 cases x with
 | none=>cases h
 | some p=>exact⟨_,_,_,_,_,rfl,h⟩
theorem inj5 {A1 A2 A3 A4 A5:Type}{a1 b1:A1}{a2 b2:A2}{a3 b3:A3}{a4 b4:A4}{a5 b5:A5}(h:some (a1,a2,a3,a4,a5)=some (b1,b2,b3,b4,b5)):a1=b1∧a2=b2∧a3=b3∧a4=b4∧a5=b5:=by
 cases h
 exact⟨rfl,rfl,rfl,rfl,rfl⟩
def bO6 {A1 A2 A3 A4 A5 A6:Type}(x:Option (A1×A2×A3×A4×A5×A6)) (k:A1→A2→A3→A4→A5→A6→Option γ):Option γ:=match x with | some p=>k p.1 p.2.1 p.2.2.1 p.2.2.2.1 p.2.2.2.2.1 p.2.2.2.2.2 | none=>none
theorem bO6_inv {A1 A2 A3 A4 A5 A6:Type}{x:Option (A1×A2×A3×A4×A5×A6)}{k:A1→A2→A3→A4→A5→A6→Option γ}{r:γ}(h:bO6 x k=some r):∃a1 a2 a3 a4 a5 a6,x=some (a1,a2,a3,a4,a5,a6)∧k a1 a2 a3 a4 a5 a6=some r:=by
 cases x with
 | none=>cases h
 | some p=>exact⟨_,_,_,_,_,_,rfl,h⟩
theorem inj6 {A1 A2 A3 A4 A5 A6:Type}{a1 b1:A1}{a2 b2:A2}{a3 b3:A3}{a4 b4:A4}{a5 b5:A5}{a6 b6:A6}(h:some (a1,a2,a3,a4,a5,a6)=some (b1,b2,b3,b4,b5,b6)):a1=b1∧a2=b2∧a3=b3∧a4=b4∧a5=b5∧a6=b6:=by
 cases h
 exact⟨rfl,rfl,rfl,rfl,rfl,rfl⟩
def bO7 {A1 A2 A3 A4 A5 A6 A7:Type}(x:Option (A1×A2×A3×A4×A5×A6×A7)) (k:A1→A2→A3→A4→A5→A6→A7→Option γ):Option γ:=match x with | some p=>k p.1 p.2.1 p.2.2.1 p.2.2.2.1 p.2.2.2.2.1 p.2.2.2.2.2.1 p.2.2.2.2.2.2 | none=>none
theorem bO7_inv {A1 A2 A3 A4 A5 A6 A7:Type}{x:Option (A1×A2×A3×A4×A5×A6×A7)}{k:A1→A2→A3→A4→A5→A6→A7→Option γ}{r:γ}(h:bO7 x k=some r):∃a1 a2 a3 a4 a5 a6 a7,x=some (a1,a2,a3,a4,a5,a6,a7)∧k a1 a2 a3 a4 a5 a6 a7=some r:=by
 cases x with
 | none=>cases h
 | some p=>exact⟨_,_,_,_,_,_,_,rfl,h⟩
def bO8 {A1 A2 A3 A4 A5 A6 A7 A8:Type}(x:Option (A1×A2×A3×A4×A5×A6×A7×A8)) (k:A1→A2→A3→A4→A5→A6→A7→A8→Option γ):Option γ:=match x with | some p=>k p.1 p.2.1 p.2.2.1 p.2.2.2.1 p.2.2.2.2.1 p.2.2.2.2.2.1 p.2.2.2.2.2.2.1 p.2.2.2.2.2.2.2 | none=>none
theorem bO8_inv {A1 A2 A3 A4 A5 A6 A7 A8:Type}{x:Option (A1×A2×A3×A4×A5×A6×A7×A8)}{k:A1→A2→A3→A4→A5→A6→A7→A8→Option γ}{r:γ}(h:bO8 x k=some r):∃a1 a2 a3 a4 a5 a6 a7 a8,x=some (a1,a2,a3,a4,a5,a6,a7,a8)∧k a1 a2 a3 a4 a5 a6 a7 a8=some r:=by
 cases x with
 | none=>cases h
 | some p=>exact⟨_,_,_,_,_,_,_,_,rfl,h⟩
theorem inj8 {A1 A2 A3 A4 A5 A6 A7 A8:Type}{a1 b1:A1}{a2 b2:A2}{a3 b3:A3}{a4 b4:A4}{a5 b5:A5}{a6 b6:A6}{a7 b7:A7}{a8 b8:A8}(h:some (a1,a2,a3,a4,a5,a6,a7,a8)=some (b1,b2,b3,b4,b5,b6,b7,b8)):a1=b1∧a2=b2∧a3=b3∧a4=b4∧a5=b5∧a6=b6∧a7=b7∧a8=b8:=by
 cases h
 exact⟨rfl,rfl,rfl,rfl,rfl,rfl,rfl,rfl⟩
def bO10 {A1 A2 A3 A4 A5 A6 A7 A8 A9 A10:Type}(x:Option (A1×A2×A3×A4×A5×A6×A7×A8×A9×A10)) (k:A1→A2→A3→A4→A5→A6→A7→A8→A9→A10→Option γ):Option γ:=match x with | some p=>k p.1 p.2.1 p.2.2.1 p.2.2.2.1 p.2.2.2.2.1 p.2.2.2.2.2.1 p.2.2.2.2.2.2.1 p.2.2.2.2.2.2.2.1 p.2.2.2.2.2.2.2.2.1 p.2.2.2.2.2.2.2.2.2 | none=>none
theorem bO10_inv {A1 A2 A3 A4 A5 A6 A7 A8 A9 A10:Type}{x:Option (A1×A2×A3×A4×A5×A6×A7×A8×A9×A10)}{k:A1→A2→A3→A4→A5→A6→A7→A8→A9→A10→Option γ}{r:γ}(h:bO10 x k=some r):∃a1 a2 a3 a4 a5 a6 a7 a8 a9 a10,x=some (a1,a2,a3,a4,a5,a6,a7,a8,a9,a10)∧k a1 a2 a3 a4 a5 a6 a7 a8 a9 a10=some r:=by
 cases x with
 | none=>cases h
 | some p=>exact⟨_,_,_,_,_,_,_,_,_,_,rfl,h⟩
theorem inj10 {A1 A2 A3 A4 A5 A6 A7 A8 A9 A10:Type}{a1 b1:A1}{a2 b2:A2}{a3 b3:A3}{a4 b4:A4}{a5 b5:A5}{a6 b6:A6}{a7 b7:A7}{a8 b8:A8}{a9 b9:A9}{a10 b10:A10}(h:some (a1,a2,a3,a4,a5,a6,a7,a8,a9,a10)=some (b1,b2,b3,b4,b5,b6,b7,b8,b9,b10)):a1=b1∧a2=b2∧a3=b3∧a4=b4∧a5=b5∧a6=b6∧a7=b7∧a8=b8∧a9=b9∧a10=b10:=by
 cases h
 exact⟨rfl,rfl,rfl,rfl,rfl,rfl,rfl,rfl,rfl,rfl⟩
end
end Go.AM
namespace Go.AM
open Go
def sI (n:Nat) (z:Int):Nat×AV:=(n,.v (.d (.int .i64 z)))
def sU (n:Nat) (z:Int):Nat×AV:=(n,.v (.d (.int .u8 z)))
def sB (n:Nat) (b:Bool):Nat×AV:=(n,.v (.d (.bool b)))
def sT (n s:Nat) (l:List D):Nat×AV:=(n,.v (.d (.list true s l)))
def sF (n s:Nat) (l:List D):Nat×AV:=(n,.v (.d (.list false s l)))
def sL (n i:Nat):Nat×AV:=(n,.v (.c (.ptr (.loc i) 0)))
def sE (n i:Nat):Nat×AV:=(n,.v (.c (.ptr (.ext i) 0)))
def sS (n:Nat) (b:ByteArray):Nat×AV:=(n,.v (.d (.str b)))
abbrev LD:=List D
abbrev BA:=ByteArray
theorem itT {γ:Type}{x y r:Option γ}(h:(if true=true then x else y)=r):x=r:=h
theorem itF {γ:Type}{x y r:Option γ}(h:(if false=true then x else y)=r):y=r:=h
end Go.AM
namespace Go.AM
open Go
def Ev {α:Type}(A:Nat→Option α) (r:α):Prop:=∃N,∀n,N≤n→A n=some r
section
variable {α β γ:Type}
theorem Ev.ret {r:α}:Ev (fun _=>some r) r:=⟨0,fun _ _=>rfl⟩
theorem Ev.of {A:Nat→Option α}{r:α}(h:∀n,A n=some r):Ev A r:=⟨0,fun n _=>h n⟩
theorem Ev.succ {A:Nat→Option α}{r:α}(h:Ev (fun n=>A (n+1)) r):Ev A r:=by
 obtain⟨N,h⟩:=h
 refine⟨N+1,fun n hn=>?_⟩
 obtain⟨m,rfl⟩:∃m,n=m+1:=⟨n - 1,by omega⟩
 exact h m (by omega)
theorem Ev.congr {A B:Nat→Option α}{r:α}(h:Ev A r) (e:∀n,A n=B n):Ev B r:=by
 obtain⟨N,h⟩:=h
 exact⟨N,fun n hn=>(e n)▸h n hn⟩
theorem Ev.bO0 {A:Nat→Option Unit}{k:Nat→Option γ}{r:γ}(ha:Ev A ()) (hk:Ev k r):Ev (fun n=>bO0 (A n) (k n)) r:=by
 obtain⟨N,ha⟩:=ha
 obtain⟨M,hk⟩:=hk
 refine⟨N+M,fun n hn=>?_⟩
 show Go.AM.bO0 (A n) (k n)=some r
 rw[ha n (by omega)]
 exact hk n (by omega)
theorem Ev.bO1 {A:Nat→Option α}{a:α}{k:Nat→α→Option γ}{r:γ}(ha:Ev A a) (hk:Ev (fun n=>k n a) r):Ev (fun n=>bO1 (A n) (k n)) r:=by
 obtain⟨N,ha⟩:=ha
 obtain⟨M,hk⟩:=hk
 refine⟨N+M,fun n hn=>?_⟩
 show Go.AM.bO1 (A n) (k n)=some r
 rw[ha n (by omega)]
 exact hk n (by omega)
theorem Ev.bO2 {A:Nat→Option (α×β)}{a:α}{b:β}{k:Nat→α→β→Option γ}{r:γ}(ha:Ev A (a,b)) (hk:Ev (fun n=>k n a b) r):Ev (fun n=>bO2 (A n) (k n)) r:=by
 obtain⟨N,ha⟩:=ha
 obtain⟨M,hk⟩:=hk
 refine⟨N+M,fun n hn=>?_⟩
 show Go.AM.bO2 (A n) (k n)=some r
 rw[ha n (by omega)]
 exact hk n (by omega)
theorem Ev.run {A:Nat→Option α}{r:α}(h:Ev A r):∃n,A n=some r:=let ⟨N,h⟩:=h;⟨N,h N (Nat.le_refl _)⟩
theorem down {P:Nat→Prop}(N:Nat) (h0:P N) (h:∀i,i<N→P (i+1)→P i):∀i,i≤N→P i:=by
 intro i hi
 obtain⟨d,hd⟩:∃d,d=N - i:=⟨_,rfl⟩
 induction d generalizing i with
 | zero=>
      obtain rfl:i=N:=by omega
      exact h0
 | succ d ih=>exact h i (by omega) (ih (i+1) (by omega) (by omega))
end
section
variable {γ:Type}
theorem getF_nat {L:List D}{i:Nat}{x:D}{k:D→Option γ}(hx:L[i]?=some x):getF L (i:Int) k=k x:=getF_some (by omega) (by simpa using hx)
theorem wrap_i64' {x:Int}(h: -9223372036854775808≤x∧x≤9223372036854775807):IntKind.i64.wrap x=x:=IntWalk.i64_in x h
theorem wrap_succ {i N:Nat}(h:i<N) (hN:N≤maxLen):IntKind.i64.wrap ((i:Int)+1)=((i+1:Nat):Int):=by
 have:maxLen=9223372036854775807:=rfl
 rw[wrap_i64' (by omega)];omega
end
def RowS (ti:Types) (e:TypeId) (x:D):Prop:=Shape ti e x.cells∧∀y,ti e=some y→x.isAgg=rowD y.desc
def ListS (ti:Types) (e:TypeId) (L:List D):Prop:=L.length≤maxLen∧∀x∈L,RowS ti e x
theorem ListS.get {ti:Types}{e:TypeId}{L:List D}{i:Nat}(h:ListS ti e L) (hi:i<L.length):∃x,L[i]?=some x∧x∈L∧RowS ti e x:=
 ⟨L[i],List.getElem?_eq_getElem hi,List.getElem_mem hi,h.2 _ (List.getElem_mem hi)⟩
def flatFs (ti:Types) (rec:TypeId→Option (List TypeId)):Nat→List Field→Option (List TypeId)
 | _,[]=>some []
 | off,f::r=>match Nat.beq f.offset off with
  | false=>none
  | true=>match ti f.type with
   | none=>none
   | some y=>match rec f.type with
    | none=>none
    | some l=>match Nat.beq l.length y.size with
     | false=>none
     | true=>match flatFs ti rec (off+y.size) r with
      | none=>none
      | some l'=>some (l++l')
def flatT (ti:Types):Nat→TypeId→Option (List TypeId)
 | 0,_=>none
 | n+1,t=>match ti t with
  | none=>none
  | some x=>match x.desc with
   | .struct fs=>match flatFs ti (flatT ti n) 0 fs.toList with
    | none=>none
    | some l=>match Nat.beq l.length x.size with
     | true=>some l
     | false=>none
   | .array ..=>none
   | _=>some [t]
theorem Shape.one {ti:Types}{t:TypeId}{x:TI}{ds:List D}(h:Shape ti t ds) (hx:ti t=some x) (hd:∀fs,x.desc≠ .struct fs):∃c,ds=[c]:=by
 cases h with
 | struct ds h1 h2=>rw[hx]at h1;obtain rfl:=Option.some.inj h1;exact absurd h2 (hd _)
 | _=>exact⟨_,rfl⟩
theorem flatFs_ok {ti:Types}{rec:TypeId→Option (List TypeId)}{ds:List D}
  (hrec:∀t ls cs,rec t=some ls→Shape ti t cs→cs.length=ls.length∧∀(j:Nat) c tl,cs[j]?=some c→ls[j]?=some tl→Shape ti tl [c]):
  ∀(fs:List Field) (off:Nat) (ls:List TypeId),flatFs ti rec off fs=some ls→(∀f∈fs,∀y,ti f.type=some y→Shape ti f.type ((ds.drop f.offset).take y.size))→
   ∀(j:Nat) c tl,ds[off+j]?=some c→ls[j]?=some tl→Shape ti tl [c]
 | [],off,ls,h,_,j,c,tl,_,hl=>by
  cases h;simp at hl
 | f::fs,off,ls,h,hs,j,c,tl,hc,hl=>by
  unfold flatFs at h
  split at h
  ·cases h
  ·rename_i ho
   have ho:=Nat.eq_of_beq_eq_true ho
   split at h
   ·cases h
   ·rename_i y hy
    split at h
    ·cases h
    ·rename_i l hr
     split at h
     ·cases h
     ·rename_i hb
      have hb:=Nat.eq_of_beq_eq_true hb
      split at h
      ·cases h
      ·rename_i l' hl'
       cases h
       obtain⟨h1,h2⟩:=hrec _ _ _ hr (hs f (by simp) y hy)
       by_cases hj:j<l.length
       ·rw[List.getElem?_append_left hj]at hl
        refine h2 j c tl ?_ hl
        rw[List.getElem?_take,if_pos (by omega),List.getElem?_drop,ho]
        exact hc
       ·rw[List.getElem?_append_right (by omega)]at hl
        refine flatFs_ok hrec fs _ l' hl' (fun f' hf'=>hs f' (List.mem_cons_of_mem _ hf')) (j - l.length) c tl ?_ hl
        rw[←hc];congr 1;omega
theorem Shape.flat {ti:Types}:
  ∀(n:Nat) (t:TypeId) (ls:List TypeId) (ds:List D),flatT ti n t=some ls→Shape ti t ds→ds.length=ls.length∧∀(j:Nat) c tl,ds[j]?=some c→ls[j]?=some tl→Shape ti tl [c]
 | 0,t,ls,ds,h,_=>by cases h
 | n+1,t,ls,ds,h,hs=>by
  unfold flatT at h
  split at h
  ·cases h
  ·rename_i x hx
   have single:(∀fs,x.desc≠ .struct fs)→ls=[t]→ds.length=ls.length∧∀(j:Nat) c tl,ds[j]?=some c→ls[j]?=some tl→Shape ti tl [c]:=by
    rintro hd rfl
    obtain⟨c,rfl⟩:=hs.one hx hd
    refine⟨rfl,fun j c' tl h1 h2=>?_⟩
    match j with
    | 0=>simp at h1 h2;subst h1;subst h2;exact hs
    | j+1=>simp at h1
   split at h
   ·rename_i fs hd
    obtain⟨h1,_,h3⟩:=hs.struct_inv hx hd
    split at h
    ·cases h
    ·rename_i l hl
     split at h
     ·rename_i hb
      cases h
      refine⟨h1.trans (Nat.eq_of_beq_eq_true hb).symm,fun j c tl h4 h5=>?_⟩
      exact flatFs_ok (fun t ls cs h6 h7=>Shape.flat n t ls cs h6 h7) fs.toList 0 ls hl h3 j c tl (by simpa using h4) h5
     ·cases h
   ·cases h
   ·rename_i h1 h2
    cases h
    exact single h1 rfl
theorem RowS.agg {ti:Types}{e:TypeId}{x:D}{y:TI}(h:RowS ti e x) (hy:ti e=some y) (hr:rowD y.desc=true):∃cs,x= .agg cs∧Shape ti e cs:=by
 have h1:=(h.2 y hy).trans hr
 cases x<;>simp[D.isAgg]at h1
 exact⟨_,rfl,h.1⟩
theorem RowS.flat1 {ti:Types}{e:TypeId}{x:D}{y:TI}(h:RowS ti e x) (hy:ti e=some y) (hr:rowD y.desc=false):Shape ti e [x]:=by
 have h1:=(h.2 y hy).trans hr
 have h0:=h.1
 cases x<;>simp_all [D.isAgg,D.cells]
theorem Shape.listS {ti:Types}{t e:TypeId}{x y:TI}{c:D}(h:Shape ti t [c]) (hx:ti t=some x) (hd:x.desc= .slice e) (hy:ti e=some y):
  ∃L,c= .list (rowD y.desc) y.size L∧ListS ti e L:=by
 obtain⟨L,e1,h1,h2,h3⟩:=h.slice_inv hx hd hy
 refine⟨L,(List.cons.inj e1).1,h1,fun r hr=>⟨h3 r hr,fun y' hy'=>?_⟩⟩
 rw[hy]at hy'
 obtain rfl:=Option.some.inj hy'
 exact (h2 r hr).1
theorem Shape.intS {ti:Types}{t:TypeId}{x:TI}{k:IntKind}{c:D}(h:Shape ti t [c]) (hx:ti t=some x) (hd:x.desc= .int k):∃n,c= .int k n∧(Lit.int k n).wf=true:=by
 obtain⟨n,e,hw⟩:=h.int_inv hx hd
 exact⟨n,(List.cons.inj e).1,hw⟩
theorem Shape.strS {ti:Types}{t:TypeId}{x:TI}{c:D}(h:Shape ti t [c]) (hx:ti t=some x) (hd:x.desc= .string):∃s,c= .str s∧s.size≤maxLen:=by
 obtain⟨n,e,hw⟩:=h.str_inv hx hd
 exact⟨n,(List.cons.inj e).1,hw⟩
theorem size_row {ag:Bool}{sz:Nat}{L M:List D}{cs:List D}(h:D.agg cs∈L) (h2:D.list ag sz M∈cs):SizeOf.sizeOf M<SizeOf.sizeOf L:=by
 have h1:=List.sizeOf_lt_of_mem h
 have h3:=List.sizeOf_lt_of_mem h2
 simp at h1 h3
 omega
theorem list_ind {P:List D→Prop}(H:∀L,(∀M,SizeOf.sizeOf M<SizeOf.sizeOf L→P M)→P L) (L:List D):P L:=by
 obtain⟨m,hm⟩:∃m,SizeOf.sizeOf L<m:=⟨_,Nat.lt_succ_self _⟩
 induction m generalizing L with
 | zero=>omega
 | succ m ih=>exact H L (fun M hM=>ih M (by omega))
end Go.AM
namespace Go.AM
open Go
theorem Shape.row {ti:Types}{t:TypeId}{cs:List D}{y:TI}(h:Shape ti t cs) (hy:ti t=some y) (h1:rowD y.desc=true):cs.length=y.size∧∀c∈cs,c.isAgg=false:=by
 cases h with
 | struct ds h hd hl hg hr=>rw[hy]at h;cases h;exact⟨hl,hg⟩
 | bool b h hd=>rw[hy]at h;cases h;rw[hd]at h1;cases h1
 | int n h hd=>rw[hy]at h;cases h;rw[hd]at h1;cases h1
 | str s h hd=>rw[hy]at h;cases h;rw[hd]at h1;cases h1
 | slice rows h hd=>rw[hy]at h;cases h;rw[hd]at h1;cases h1
theorem Shape.cell {ti:Types}{t:TypeId}{cs:List D}{y:TI}(h:Shape ti t cs) (hy:ti t=some y) (h1:rowD y.desc=false):∃c,cs=[c]∧c.isAgg=false:=by
 cases h with
 | struct ds h hd hl hg hr=>rw[hy]at h;cases h;rw[hd]at h1;cases h1
 | bool b h hd=>exact⟨_,rfl,rfl⟩
 | int n h hd=>exact⟨_,rfl,rfl⟩
 | str s h hd=>exact⟨_,rfl,rfl⟩
 | slice rows h hd=>exact⟨_,rfl,rfl⟩
theorem RowS.fits {ti:Types}{e:TypeId}{r:D}{y:TI}(h1:TIone ti) (h:RowS ti e r) (hy:ti e=some y):r.fits (rowD y.desc) y.size:=by
 have ha:=h.2 y hy
 cases hr:rowD y.desc with
 | true=>
  obtain⟨q1,q2⟩:=h.1.row hy hr
  exact⟨by rw[ha,hr],q1,q2⟩
 | false=>
  obtain⟨c,q1,q2⟩:=h.1.cell hy hr
  exact⟨by rw[ha,hr],by rw[q1,h1 e y hy hr];rfl,by rw[q1];simpa using q2⟩
theorem ListS.shape {ti:Types}{t e:TypeId}{x y:TI}{L:List D}(h1:TIone ti) (h:ListS ti e L) (hx:ti t=some x) (hd:x.desc= .slice e) (hy:ti e=some y):Shape ti t [.list (rowD y.desc) y.size L]:=
 .slice L hx hd hy h.1 (fun r hr=>(h.2 r hr).fits h1 hy) (fun r hr=>(h.2 r hr).1)
theorem ListS.nil {ti:Types}{e:TypeId}:ListS ti e []:=⟨Nat.zero_le _,by simp⟩
theorem ListS.cons {ti:Types}{e:TypeId}{x:D}{L:List D}(hx:RowS ti e x) (h:ListS ti e L) (hl:L.length+1≤maxLen):ListS ti e (x::L):=⟨by simpa using hl,fun y hy=>by
 rcases List.mem_cons.1 hy with rfl | hy
 ·exact hx
 ·exact h.2 y hy⟩
theorem ListS.app {ti:Types}{e:TypeId}{L M:List D}(h:ListS ti e L) (h':ListS ti e M) (hl:L.length+M.length≤maxLen):ListS ti e (L++M):=⟨by simpa using hl,fun y hy=>by
 rcases List.mem_append.1 hy with hy | hy
 ·exact h.2 y hy
 ·exact h'.2 y hy⟩
theorem ListS.one {ti:Types}{e:TypeId}{x:D}(hx:RowS ti e x):ListS ti e [x]:=.cons hx .nil (by simp[maxLen])
theorem ListS.set {ti:Types}{e:TypeId}{L:List D}(h:ListS ti e L) (i:Nat) {x:D}(hx:RowS ti e x):ListS ti e (L.set i x):=⟨by simpa using h.1,fun y hy=>by
 rcases List.mem_or_eq_of_mem_set hy with hy | rfl
 ·exact h.2 y hy
 ·exact hx⟩
theorem ListS.take {ti:Types}{e:TypeId}{L:List D}(h:ListS ti e L) (i:Nat):ListS ti e (L.take i):=⟨by have:=h.1;simp;omega,fun x hx=>h.2 x (List.mem_of_mem_take hx)⟩
theorem ListS.drop {ti:Types}{e:TypeId}{L:List D}(h:ListS ti e L) (i:Nat):ListS ti e (L.drop i):=⟨by have:=h.1;simp;omega,fun x hx=>h.2 x (List.mem_of_mem_drop hx)⟩
theorem Ev.bO3 {A1 A2 A3 γ:Type}{A:Nat→Option (A1×A2×A3)}{a1:A1}{a2:A2}{a3:A3}{k:Nat→A1→A2→A3→Option γ}{r:γ}(ha:Ev A (a1,a2,a3)) (hk:Ev (fun n=>k n a1 a2 a3) r):Ev (fun n=>bO3 (A n) (k n)) r:=by
 obtain⟨N,ha⟩:=ha
 obtain⟨M,hk⟩:=hk
 refine⟨N+M,fun n hn=>?_⟩
 show Go.AM.bO3 (A n) (k n)=some r
 rw[ha n (by omega)]
 exact hk n (by omega)
theorem Ev.bO4 {A1 A2 A3 A4 γ:Type}{A:Nat→Option (A1×A2×A3×A4)}{a1:A1}{a2:A2}{a3:A3}{a4:A4}{k:Nat→A1→A2→A3→A4→Option γ}{r:γ}(ha:Ev A (a1,a2,a3,a4)) (hk:Ev (fun n=>k n a1 a2 a3 a4) r):Ev (fun n=>bO4 (A n) (k n)) r:=by
 obtain⟨N,ha⟩:=ha
 obtain⟨M,hk⟩:=hk
 refine⟨N+M,fun n hn=>?_⟩
 show Go.AM.bO4 (A n) (k n)=some r
 rw[ha n (by omega)]
 exact hk n (by omega)
theorem Ev.bO5 {A1 A2 A3 A4 A5 γ:Type}{A:Nat→Option (A1×A2×A3×A4×A5)}{a1:A1}{a2:A2}{a3:A3}{a4:A4}{a5:A5}{k:Nat→A1→A2→A3→A4→A5→Option γ}{r:γ}(ha:Ev A (a1,a2,a3,a4,a5)) (hk:Ev (fun n=>k n a1 a2 a3 a4 a5) r):Ev (fun n=>bO5 (A n) (k n)) r:=by
 obtain⟨N,ha⟩:=ha
 obtain⟨M,hk⟩:=hk
 refine⟨N+M,fun n hn=>?_⟩
 show Go.AM.bO5 (A n) (k n)=some r
 rw[ha n (by omega)]
 exact hk n (by omega)
theorem Ev.bO6 {A1 A2 A3 A4 A5 A6 γ:Type}{A:Nat→Option (A1×A2×A3×A4×A5×A6)}{a1:A1}{a2:A2}{a3:A3}{a4:A4}{a5:A5}{a6:A6}{k:Nat→A1→A2→A3→A4→A5→A6→Option γ}{r:γ}(ha:Ev A (a1,a2,a3,a4,a5,a6)) (hk:Ev (fun n=>k n a1 a2 a3 a4 a5 a6) r):Ev (fun n=>bO6 (A n) (k n)) r:=by
 obtain⟨N,ha⟩:=ha
 obtain⟨M,hk⟩:=hk
 refine⟨N+M,fun n hn=>?_⟩
 show Go.AM.bO6 (A n) (k n)=some r
 rw[ha n (by omega)]
 exact hk n (by omega)
theorem Ev.bO7 {A1 A2 A3 A4 A5 A6 A7 γ:Type}{A:Nat→Option (A1×A2×A3×A4×A5×A6×A7)}{a1:A1}{a2:A2}{a3:A3}{a4:A4}{a5:A5}{a6:A6}{a7:A7}{k:Nat→A1→A2→A3→A4→A5→A6→A7→Option γ}{r:γ}(ha:Ev A (a1,a2,a3,a4,a5,a6,a7)) (hk:Ev (fun n=>k n a1 a2 a3 a4 a5 a6 a7) r):Ev (fun n=>bO7 (A n) (k n)) r:=by
 obtain⟨N,ha⟩:=ha
 obtain⟨M,hk⟩:=hk
 refine⟨N+M,fun n hn=>?_⟩
 show Go.AM.bO7 (A n) (k n)=some r
 rw[ha n (by omega)]
 exact hk n (by omega)
theorem Ev.bO8 {A1 A2 A3 A4 A5 A6 A7 A8 γ:Type}{A:Nat→Option (A1×A2×A3×A4×A5×A6×A7×A8)}{a1:A1}{a2:A2}{a3:A3}{a4:A4}{a5:A5}{a6:A6}{a7:A7}{a8:A8}{k:Nat→A1→A2→A3→A4→A5→A6→A7→A8→Option γ}{r:γ}(ha:Ev A (a1,a2,a3,a4,a5,a6,a7,a8)) (hk:Ev (fun n=>k n a1 a2 a3 a4 a5 a6 a7 a8) r):Ev (fun n=>bO8 (A n) (k n)) r:=by
 obtain⟨N,ha⟩:=ha
 obtain⟨M,hk⟩:=hk
 refine⟨N+M,fun n hn=>?_⟩
 show Go.AM.bO8 (A n) (k n)=some r
 rw[ha n (by omega)]
 exact hk n (by omega)
theorem Ev.bO10 {A1 A2 A3 A4 A5 A6 A7 A8 A9 A10 γ:Type}{A:Nat→Option (A1×A2×A3×A4×A5×A6×A7×A8×A9×A10)}{a1:A1}{a2:A2}{a3:A3}{a4:A4}{a5:A5}{a6:A6}{a7:A7}{a8:A8}{a9:A9}{a10:A10}{k:Nat→A1→A2→A3→A4→A5→A6→A7→A8→A9→A10→Option γ}{r:γ}(ha:Ev A (a1,a2,a3,a4,a5,a6,a7,a8,a9,a10)) (hk:Ev (fun n=>k n a1 a2 a3 a4 a5 a6 a7 a8 a9 a10) r):Ev (fun n=>bO10 (A n) (k n)) r:=by
 obtain⟨N,ha⟩:=ha
 obtain⟨M,hk⟩:=hk
 refine⟨N+M,fun n hn=>?_⟩
 show Go.AM.bO10 (A n) (k n)=some r
 rw[ha n (by omega)]
 exact hk n (by omega)
end Go.AM
namespace Go.Proofs.Ytiiojajgajnhpaa
open Go Go.AM
def tabC0:List (Nat×TI):=[(1,⟨.func #[] #[] false,1,8,.nilFunc,[.nilf]⟩),
 (2,⟨.int .i64,1,8,.int .i64 0,[.d (.int .i64 0)]⟩),
 (3,⟨.int .i64,1,8,.int .i64 0,[.d (.int .i64 0)]⟩),
 (4,⟨.bool,1,1,.bool false,[.d (.bool false)]⟩),
 (5,⟨.int .u8,1,1,.int .u8 0,[.d (.int .u8 0)]⟩),
 (6,⟨.int .u8,1,1,.int .u8 0,[.d (.int .u8 0)]⟩),
 (7,⟨.struct #[⟨"x",2,0,false, "", "runtime",0⟩,⟨"y",3,1,false, "", "runtime",8⟩,⟨"signed",4,2,false, "", "runtime",16⟩,⟨"code",6,3,false, "", "runtime",17⟩],4,24,.agg #[.int .i64 0,.int .i64 0,.bool false,.int .u8 0],[.d (.int .i64 0),.d (.int .i64 0),.d (.bool false),.d (.int .u8 0)]⟩),
 (8,⟨.struct #[⟨"x",2,0,false, "", "runtime",0⟩,⟨"y",3,1,false, "", "runtime",8⟩,⟨"signed",4,2,false, "", "runtime",16⟩,⟨"code",6,3,false, "", "runtime",17⟩],4,24,.agg #[.int .i64 0,.int .i64 0,.bool false,.int .u8 0],[.d (.int .i64 0),.d (.int .i64 0),.d (.bool false),.d (.int .u8 0)]⟩),
 (9,⟨.string,1,16,.string ByteArray.empty,[.d (.str ByteArray.empty)]⟩),
 (10,⟨.string,1,16,.string ByteArray.empty,[.d (.str ByteArray.empty)]⟩),
 (11,⟨.string,1,16,.string ByteArray.empty,[.d (.str ByteArray.empty)]⟩),
 (12,⟨.int .u64,1,8,.int .u64 0,[.d (.int .u64 0)]⟩),
 (13,⟨.struct #[⟨"msg",9,0,false, "", "runtime",0⟩,⟨"addr",12,1,false, "", "runtime",16⟩],2,24,.agg #[.string ByteArray.empty,.int .u64 0],[.d (.str ByteArray.empty),.d (.int .u64 0)]⟩),
 (14,⟨.struct #[⟨"msg",9,0,false, "", "runtime",0⟩,⟨"addr",12,1,false, "", "runtime",16⟩],2,24,.agg #[.string ByteArray.empty,.int .u64 0],[.d (.str ByteArray.empty),.d (.int .u64 0)]⟩),
 (15,⟨.pointer 209,1,8,.pointer none,[.nilp]⟩)]
def tabC1:List (Nat×TI):=[(16,⟨.pointer 212,1,8,.pointer none,[.nilp]⟩),
 (17,⟨.pointer 221,1,8,.pointer none,[.nilp]⟩),
 (18,⟨.struct #[⟨"typ",17,0,false, "", "internal/runtime/maps",0⟩],1,8,.agg #[.pointer none],[.nilp]⟩),
 (19,⟨.struct #[⟨"typ",17,0,false, "", "internal/runtime/maps",0⟩],1,8,.agg #[.pointer none],[.nilp]⟩),
 (21,⟨.int .i32,1,4,.int .i32 0,[.d (.int .i32 0)]⟩),
 (22,⟨.slice 126,1,24,.slice none 0 0,[.nils true 16]⟩),
 (23,⟨.struct #[⟨"Items",22,0,false, "", "",0⟩],1,24,.agg #[.slice none 0 0],[.nils true 16]⟩),
 (24,⟨.struct #[⟨"Items",22,0,false, "", "",0⟩],1,24,.agg #[.slice none 0 0],[.nils true 16]⟩),
 (25,⟨.slice 27,1,24,.slice none 0 0,[.nils true 3]⟩),
 (26,⟨.struct #[⟨"Kind",5,0,false, "", "",0⟩,⟨"Name",9,1,false, "", "",8⟩,⟨"Args",25,2,false, "", "",24⟩],3,48,.agg #[.int .u8 0,.string ByteArray.empty,.slice none 0 0],[.d (.int .u8 0),.d (.str ByteArray.empty),.nils true 3]⟩),
 (27,⟨.struct #[⟨"Kind",5,0,false, "", "",0⟩,⟨"Name",9,1,false, "", "",8⟩,⟨"Args",25,2,false, "", "",24⟩],3,48,.agg #[.int .u8 0,.string ByteArray.empty,.slice none 0 0],[.d (.int .u8 0),.d (.str ByteArray.empty),.nils true 3]⟩),
 (28,⟨.slice 9,1,24,.slice none 0 0,[.nils false 1]⟩),
 (29,⟨.struct #[⟨"Name",9,0,false, "", "",0⟩,⟨"Path",28,1,false, "", "",16⟩],2,40,.agg #[.string ByteArray.empty,.slice none 0 0],[.d (.str ByteArray.empty),.nils false 1]⟩),
 (30,⟨.struct #[⟨"Name",9,0,false, "", "",0⟩,⟨"Path",28,1,false, "", "",16⟩],2,40,.agg #[.string ByteArray.empty,.slice none 0 0],[.d (.str ByteArray.empty),.nils false 1]⟩),
 (31,⟨.slice 33,1,24,.slice none 0 0,[.nils true 8]⟩)]
def tabC2:List (Nat×TI):=[(32,⟨.struct #[⟨"Op",5,0,false, "", "",0⟩,⟨"Int",2,1,false, "", "",8⟩,⟨"Name",9,2,false, "", "",16⟩,⟨"Second",9,3,false, "", "",32⟩,⟨"Place",30,4,false, "", "",48⟩,⟨"Args",31,6,false, "", "",88⟩,⟨"At",3,7,false, "", "",112⟩],8,120,.agg #[.int .u8 0,.int .i64 0,.string ByteArray.empty,.string ByteArray.empty,.string ByteArray.empty,.slice none 0 0,.slice none 0 0,.int .i64 0],[.d (.int .u8 0),.d (.int .i64 0),.d (.str ByteArray.empty),.d (.str ByteArray.empty),.d (.str ByteArray.empty),.nils false 1,.nils true 8,.d (.int .i64 0)]⟩),
 (33,⟨.struct #[⟨"Op",5,0,false, "", "",0⟩,⟨"Int",2,1,false, "", "",8⟩,⟨"Name",9,2,false, "", "",16⟩,⟨"Second",9,3,false, "", "",32⟩,⟨"Place",30,4,false, "", "",48⟩,⟨"Args",31,6,false, "", "",88⟩,⟨"At",3,7,false, "", "",112⟩],8,120,.agg #[.int .u8 0,.int .i64 0,.string ByteArray.empty,.string ByteArray.empty,.string ByteArray.empty,.slice none 0 0,.slice none 0 0,.int .i64 0],[.d (.int .u8 0),.d (.int .i64 0),.d (.str ByteArray.empty),.d (.str ByteArray.empty),.d (.str ByteArray.empty),.nils false 1,.nils true 8,.d (.int .i64 0)]⟩),
 (34,⟨.func #[24] #[4] false,1,8,.nilFunc,[.nilf]⟩),
 (35,⟨.func #[27] #[4] false,1,8,.nilFunc,[.nilf]⟩),
 (36,⟨.func #[33] #[4] false,1,8,.nilFunc,[.nilf]⟩),
 (37,⟨.func #[24,24] #[4] false,1,8,.nilFunc,[.nilf]⟩),
 (38,⟨.func #[24,24,4] #[4] false,1,8,.nilFunc,[.nilf]⟩),
 (39,⟨.func #[27,27] #[4] false,1,8,.nilFunc,[.nilf]⟩),
 (40,⟨.func #[33,33] #[4] false,1,8,.nilFunc,[.nilf]⟩),
 (41,⟨.func #[33,33,4] #[4] false,1,8,.nilFunc,[.nilf]⟩),
 (42,⟨.func #[24,24,27,27,33,33] #[4] false,1,8,.nilFunc,[.nilf]⟩),
 (43,⟨.func #[24,4] #[24] false,1,8,.nilFunc,[.nilf]⟩),
 (44,⟨.func #[24] #[24] false,1,8,.nilFunc,[.nilf]⟩),
 (45,⟨.func #[24] #[] false,1,8,.nilFunc,[.nilf]⟩),
 (46,⟨.slice 49,1,24,.slice none 0 0,[.nils true 6]⟩),
 (47,⟨.slice 3,1,24,.slice none 0 0,[.nils false 1]⟩)]
def tabC3:List (Nat×TI):=[(48,⟨.struct #[⟨"Kind",5,0,false, "", "",0⟩,⟨"Int",2,1,false, "", "",8⟩,⟨"Name",9,2,false, "", "",16⟩,⟨"Fields",46,3,false, "", "",32⟩,⟨"ID",3,4,false, "", "",56⟩,⟨"Path",47,5,false, "", "",64⟩],6,88,.agg #[.int .u8 0,.int .i64 0,.string ByteArray.empty,.slice none 0 0,.int .i64 0,.slice none 0 0],[.d (.int .u8 0),.d (.int .i64 0),.d (.str ByteArray.empty),.nils true 6,.d (.int .i64 0),.nils false 1]⟩),
 (49,⟨.struct #[⟨"Kind",5,0,false, "", "",0⟩,⟨"Int",2,1,false, "", "",8⟩,⟨"Name",9,2,false, "", "",16⟩,⟨"Fields",46,3,false, "", "",32⟩,⟨"ID",3,4,false, "", "",56⟩,⟨"Path",47,5,false, "", "",64⟩],6,88,.agg #[.int .u8 0,.int .i64 0,.string ByteArray.empty,.slice none 0 0,.int .i64 0,.slice none 0 0],[.d (.int .u8 0),.d (.int .i64 0),.d (.str ByteArray.empty),.nils true 6,.d (.int .i64 0),.nils false 1]⟩),
 (50,⟨.func #[49,49,47] #[4] false,1,8,.nilFunc,[.nilf]⟩),
 (51,⟨.func #[49] #[49] false,1,8,.nilFunc,[.nilf]⟩),
 (53,⟨.func #[49,47] #[49,5] false,1,8,.nilFunc,[.nilf]⟩),
 (55,⟨.func #[49,47] #[49,3] false,1,8,.nilFunc,[.nilf]⟩),
 (56,⟨.func #[49,47,49] #[49,5] false,1,8,.nilFunc,[.nilf]⟩),
 (57,⟨.func #[49,47,49] #[49,3] false,1,8,.nilFunc,[.nilf]⟩),
 (58,⟨.func #[49,49] #[4] false,1,8,.nilFunc,[.nilf]⟩),
 (59,⟨.func #[49] #[] false,1,8,.nilFunc,[.nilf]⟩),
 (60,⟨.struct #[⟨"Kind",3,0,false, "", "",0⟩,⟨"ID",3,1,false, "", "",8⟩,⟨"Room",3,2,false, "", "",16⟩,⟨"V",49,3,false, "", "",24⟩],9,112,.agg #[.int .i64 0,.int .i64 0,.int .i64 0,.int .u8 0,.int .i64 0,.string ByteArray.empty,.slice none 0 0,.int .i64 0,.slice none 0 0],[.d (.int .i64 0),.d (.int .i64 0),.d (.int .i64 0),.d (.int .u8 0),.d (.int .i64 0),.d (.str ByteArray.empty),.nils true 6,.d (.int .i64 0),.nils false 1]⟩),
 (61,⟨.struct #[⟨"Kind",3,0,false, "", "",0⟩,⟨"ID",3,1,false, "", "",8⟩,⟨"Room",3,2,false, "", "",16⟩,⟨"V",49,3,false, "", "",24⟩],9,112,.agg #[.int .i64 0,.int .i64 0,.int .i64 0,.int .u8 0,.int .i64 0,.string ByteArray.empty,.slice none 0 0,.int .i64 0,.slice none 0 0],[.d (.int .i64 0),.d (.int .i64 0),.d (.int .i64 0),.d (.int .u8 0),.d (.int .i64 0),.d (.str ByteArray.empty),.nils true 6,.d (.int .i64 0),.nils false 1]⟩),
 (62,⟨.func #[63] #[4] false,1,8,.nilFunc,[.nilf]⟩),
 (63,⟨.slice 61,1,24,.slice none 0 0,[.nils true 9]⟩)]
def tabC4:List (Nat×TI):=[(64,⟨.pointer 67,1,8,.pointer none,[.nilp]⟩),
 (65,⟨.map 3 161,1,8,.map none,[.nilm]⟩),
 (66,⟨.struct #[⟨"m",65,0,false, "", "weftway/queues",0⟩],1,8,.agg #[.map none],[.nilm]⟩),
 (67,⟨.struct #[⟨"m",65,0,false, "", "weftway/queues",0⟩],1,8,.agg #[.map none],[.nilm]⟩),
 (68,⟨.slice 64,1,24,.slice none 0 0,[.nils false 1]⟩),
 (69,⟨.func #[3,3] #[] false,1,8,.nilFunc,[.nilf]⟩),
 (71,⟨.func #[3] #[49,4] false,1,8,.nilFunc,[.nilf]⟩),
 (72,⟨.func #[3,49] #[4] false,1,8,.nilFunc,[.nilf]⟩),
 (73,⟨.func #[3] #[4] false,1,8,.nilFunc,[.nilf]⟩),
 (74,⟨.func #[3] #[46] false,1,8,.nilFunc,[.nilf]⟩),
 (75,⟨.func #[61] #[4] false,1,8,.nilFunc,[.nilf]⟩),
 (76,⟨.func #[] #[64] false,1,8,.nilFunc,[.nilf]⟩),
 (77,⟨.pointer 80,1,8,.pointer none,[.nilp]⟩),
 (78,⟨.slice 171,1,24,.slice none 0 0,[.nils true 3]⟩),
 (79,⟨.struct #[⟨"L",78,0,false, "", "",0⟩],1,24,.agg #[.slice none 0 0],[.nils true 3]⟩)]
def tabC5:List (Nat×TI):=[(80,⟨.struct #[⟨"L",78,0,false, "", "",0⟩],1,24,.agg #[.slice none 0 0],[.nils true 3]⟩),
 (81,⟨.func #[64,77,61] #[4] false,1,8,.nilFunc,[.nilf]⟩),
 (82,⟨.func #[] #[4] false,1,8,.nilFunc,[.nilf]⟩),
 (83,⟨.func #[46,46] #[4] false,1,8,.nilFunc,[.nilf]⟩),
 (84,⟨.func #[3,63] #[4] false,1,8,.nilFunc,[.nilf]⟩),
 (85,⟨.func #[63,3] #[4] false,1,8,.nilFunc,[.nilf]⟩),
 (86,⟨.func #[2] #[49] false,1,8,.nilFunc,[.nilf]⟩),
 (87,⟨.func #[3,3] #[4] false,1,8,.nilFunc,[.nilf]⟩),
 (88,⟨.func #[3,3,3] #[4] false,1,8,.nilFunc,[.nilf]⟩),
 (89,⟨.struct #[⟨"Kind",3,0,false, "", "",0⟩,⟨"ID",3,1,false, "", "",8⟩,⟨"Path",47,2,false, "", "",16⟩,⟨"V",49,3,false, "", "",40⟩],9,128,.agg #[.int .i64 0,.int .i64 0,.slice none 0 0,.int .u8 0,.int .i64 0,.string ByteArray.empty,.slice none 0 0,.int .i64 0,.slice none 0 0],[.d (.int .i64 0),.d (.int .i64 0),.nils false 1,.d (.int .u8 0),.d (.int .i64 0),.d (.str ByteArray.empty),.nils true 6,.d (.int .i64 0),.nils false 1]⟩),
 (90,⟨.struct #[⟨"Kind",3,0,false, "", "",0⟩,⟨"ID",3,1,false, "", "",8⟩,⟨"Path",47,2,false, "", "",16⟩,⟨"V",49,3,false, "", "",40⟩],9,128,.agg #[.int .i64 0,.int .i64 0,.slice none 0 0,.int .u8 0,.int .i64 0,.string ByteArray.empty,.slice none 0 0,.int .i64 0,.slice none 0 0],[.d (.int .i64 0),.d (.int .i64 0),.nils false 1,.d (.int .u8 0),.d (.int .i64 0),.d (.str ByteArray.empty),.nils true 6,.d (.int .i64 0),.nils false 1]⟩),
 (91,⟨.func #[92] #[4] false,1,8,.nilFunc,[.nilf]⟩),
 (92,⟨.slice 90,1,24,.slice none 0 0,[.nils true 9]⟩),
 (93,⟨.pointer 96,1,8,.pointer none,[.nilp]⟩),
 (94,⟨.map 3 173,1,8,.map none,[.nilm]⟩),
 (95,⟨.struct #[⟨"cells",94,0,false, "", "weftway/heap",0⟩,⟨"left",3,1,false, "", "weftway/heap",8⟩],2,16,.agg #[.map none,.int .i64 0],[.nilm,.d (.int .i64 0)]⟩)]
def tabC6:List (Nat×TI):=[(96,⟨.struct #[⟨"cells",94,0,false, "", "weftway/heap",0⟩,⟨"left",3,1,false, "", "weftway/heap",8⟩],2,16,.agg #[.map none,.int .i64 0],[.nilm,.d (.int .i64 0)]⟩),
 (97,⟨.slice 93,1,24,.slice none 0 0,[.nils false 1]⟩),
 (98,⟨.int .i64,1,8,.int .i64 0,[.d (.int .i64 0)]⟩),
 (100,⟨.func #[49] #[3,98] false,1,8,.nilFunc,[.nilf]⟩),
 (101,⟨.func #[3,47] #[49,5] false,1,8,.nilFunc,[.nilf]⟩),
 (102,⟨.func #[3,47,49] #[49,5] false,1,8,.nilFunc,[.nilf]⟩),
 (103,⟨.func #[3] #[49,5] false,1,8,.nilFunc,[.nilf]⟩),
 (104,⟨.func #[3,47,49] #[5] false,1,8,.nilFunc,[.nilf]⟩),
 (105,⟨.func #[] #[3] false,1,8,.nilFunc,[.nilf]⟩),
 (106,⟨.func #[90] #[4] false,1,8,.nilFunc,[.nilf]⟩),
 (107,⟨.func #[] #[93] false,1,8,.nilFunc,[.nilf]⟩),
 (108,⟨.pointer 113,1,8,.pointer none,[.nilp]⟩),
 (109,⟨.func #[] #[108] false,1,8,.nilFunc,[.nilf]⟩),
 (110,⟨.func #[93,108,90] #[4] false,1,8,.nilFunc,[.nilf]⟩),
 (111,⟨.slice 183,1,24,.slice none 0 0,[.nils true 7]⟩)]
def tabC7:List (Nat×TI):=[(112,⟨.struct #[⟨"Cells",111,0,false, "", "",0⟩],1,24,.agg #[.slice none 0 0],[.nils true 7]⟩),
 (113,⟨.struct #[⟨"Cells",111,0,false, "", "",0⟩],1,24,.agg #[.slice none 0 0],[.nils true 7]⟩),
 (114,⟨.func #[3] #[3] false,1,8,.nilFunc,[.nilf]⟩),
 (115,⟨.func #[3,92] #[4] false,1,8,.nilFunc,[.nilf]⟩),
 (116,⟨.slice 4,1,24,.slice none 0 0,[.nils false 1]⟩),
 (118,⟨.func #[93] #[46,116] false,1,8,.nilFunc,[.nilf]⟩),
 (119,⟨.func #[93,90] #[4] false,1,8,.nilFunc,[.nilf]⟩),
 (120,⟨.pointer 122,1,8,.pointer none,[.nilp]⟩),
 (121,⟨.struct #[⟨"Left",3,0,false, "", "",0⟩],1,8,.agg #[.int .i64 0],[.d (.int .i64 0)]⟩),
 (122,⟨.struct #[⟨"Left",3,0,false, "", "",0⟩],1,8,.agg #[.int .i64 0],[.d (.int .i64 0)]⟩),
 (123,⟨.slice 136,1,24,.slice none 0 0,[.nils true 4]⟩),
 (124,⟨.slice 152,1,24,.slice none 0 0,[.nils true 15]⟩),
 (125,⟨.struct #[⟨"Kind",5,0,false, "", "",0⟩,⟨"Name",9,1,false, "", "",8⟩,⟨"Fields",123,2,false, "", "",24⟩,⟨"Result",27,3,false, "", "",48⟩,⟨"Body",124,6,false, "", "",96⟩,⟨"Return",33,7,false, "", "",120⟩,⟨"At",3,15,false, "", "",240⟩],16,248,.agg #[.int .u8 0,.string ByteArray.empty,.slice none 0 0,.int .u8 0,.string ByteArray.empty,.slice none 0 0,.slice none 0 0,.int .u8 0,.int .i64 0,.string ByteArray.empty,.string ByteArray.empty,.string ByteArray.empty,.slice none 0 0,.slice none 0 0,.int .i64 0,.int .i64 0],[.d (.int .u8 0),.d (.str ByteArray.empty),.nils true 4,.d (.int .u8 0),.d (.str ByteArray.empty),.nils true 3,.nils true 15,.d (.int .u8 0),.d (.int .i64 0),.d (.str ByteArray.empty),.d (.str ByteArray.empty),.d (.str ByteArray.empty),.nils false 1,.nils true 8,.d (.int .i64 0),.d (.int .i64 0)]⟩),
 (126,⟨.struct #[⟨"Kind",5,0,false, "", "",0⟩,⟨"Name",9,1,false, "", "",8⟩,⟨"Fields",123,2,false, "", "",24⟩,⟨"Result",27,3,false, "", "",48⟩,⟨"Body",124,6,false, "", "",96⟩,⟨"Return",33,7,false, "", "",120⟩,⟨"At",3,15,false, "", "",240⟩],16,248,.agg #[.int .u8 0,.string ByteArray.empty,.slice none 0 0,.int .u8 0,.string ByteArray.empty,.slice none 0 0,.slice none 0 0,.int .u8 0,.int .i64 0,.string ByteArray.empty,.string ByteArray.empty,.string ByteArray.empty,.slice none 0 0,.slice none 0 0,.int .i64 0,.int .i64 0],[.d (.int .u8 0),.d (.str ByteArray.empty),.nils true 4,.d (.int .u8 0),.d (.str ByteArray.empty),.nils true 3,.nils true 15,.d (.int .u8 0),.d (.int .i64 0),.d (.str ByteArray.empty),.d (.str ByteArray.empty),.d (.str ByteArray.empty),.nils false 1,.nils true 8,.d (.int .i64 0),.d (.int .i64 0)]⟩),
 (127,⟨.func #[9] #[] false,1,8,.nilFunc,[.nilf]⟩)]
def tabC8:List (Nat×TI):=[(128,⟨.func #[123] #[] false,1,8,.nilFunc,[.nilf]⟩),
 (129,⟨.func #[27] #[] false,1,8,.nilFunc,[.nilf]⟩),
 (130,⟨.func #[124] #[] false,1,8,.nilFunc,[.nilf]⟩),
 (131,⟨.func #[33] #[] false,1,8,.nilFunc,[.nilf]⟩),
 (132,⟨.func #[22,22,138] #[4] false,1,8,.nilFunc,[.nilf]⟩),
 (133,⟨.func #[124,124] #[4] false,1,8,.nilFunc,[.nilf]⟩),
 (134,⟨.func #[123,123,137] #[4] false,1,8,.nilFunc,[.nilf]⟩),
 (135,⟨.struct #[⟨"Name",9,0,false, "", "",0⟩,⟨"Type",27,1,false, "", "",16⟩],4,64,.agg #[.string ByteArray.empty,.int .u8 0,.string ByteArray.empty,.slice none 0 0],[.d (.str ByteArray.empty),.d (.int .u8 0),.d (.str ByteArray.empty),.nils true 3]⟩),
 (136,⟨.struct #[⟨"Name",9,0,false, "", "",0⟩,⟨"Type",27,1,false, "", "",16⟩],4,64,.agg #[.string ByteArray.empty,.int .u8 0,.string ByteArray.empty,.slice none 0 0],[.d (.str ByteArray.empty),.d (.int .u8 0),.d (.str ByteArray.empty),.nils true 3]⟩),
 (137,⟨.func #[136,136] #[4] false,1,8,.nilFunc,[.nilf]⟩),
 (138,⟨.func #[126,126] #[4] false,1,8,.nilFunc,[.nilf]⟩),
 (139,⟨.func #[123,123] #[4] false,1,8,.nilFunc,[.nilf]⟩),
 (140,⟨.func #[124,124,4] #[4] false,1,8,.nilFunc,[.nilf]⟩),
 (141,⟨.func #[25,25,39] #[4] false,1,8,.nilFunc,[.nilf]⟩),
 (142,⟨.func #[30,30] #[4] false,1,8,.nilFunc,[.nilf]⟩),
 (143,⟨.func #[31,31,40] #[4] false,1,8,.nilFunc,[.nilf]⟩)]
def tabC9:List (Nat×TI):=[(144,⟨.func #[31,31,4] #[4] false,1,8,.nilFunc,[.nilf]⟩),
 (145,⟨.func #[123] #[123] false,1,8,.nilFunc,[.nilf]⟩),
 (146,⟨.func #[27] #[27] false,1,8,.nilFunc,[.nilf]⟩),
 (147,⟨.func #[124,4] #[124] false,1,8,.nilFunc,[.nilf]⟩),
 (148,⟨.func #[33,4] #[33] false,1,8,.nilFunc,[.nilf]⟩),
 (149,⟨.func #[24,114] #[24] false,1,8,.nilFunc,[.nilf]⟩),
 (150,⟨.slice 154,1,24,.slice none 0 0,[.nils true 3]⟩),
 (151,⟨.struct #[⟨"Op",5,0,false, "", "",0⟩,⟨"Name",9,1,false, "", "",8⟩,⟨"Second",9,2,false, "", "",24⟩,⟨"Names",28,3,false, "", "",40⟩,⟨"Type",27,4,false, "", "",64⟩,⟨"Int",2,7,false, "", "",112⟩,⟨"Place",30,8,false, "", "",120⟩,⟨"Exprs",31,10,false, "", "",160⟩,⟨"Body",124,11,false, "", "",184⟩,⟨"Else",124,12,false, "", "",208⟩,⟨"Arms",150,13,false, "", "",232⟩,⟨"At",3,14,false, "", "",256⟩],15,264,.agg #[.int .u8 0,.string ByteArray.empty,.string ByteArray.empty,.slice none 0 0,.int .u8 0,.string ByteArray.empty,.slice none 0 0,.int .i64 0,.string ByteArray.empty,.slice none 0 0,.slice none 0 0,.slice none 0 0,.slice none 0 0,.slice none 0 0,.int .i64 0],[.d (.int .u8 0),.d (.str ByteArray.empty),.d (.str ByteArray.empty),.nils false 1,.d (.int .u8 0),.d (.str ByteArray.empty),.nils true 3,.d (.int .i64 0),.d (.str ByteArray.empty),.nils false 1,.nils true 8,.nils true 15,.nils true 15,.nils true 3,.d (.int .i64 0)]⟩),
 (152,⟨.struct #[⟨"Op",5,0,false, "", "",0⟩,⟨"Name",9,1,false, "", "",8⟩,⟨"Second",9,2,false, "", "",24⟩,⟨"Names",28,3,false, "", "",40⟩,⟨"Type",27,4,false, "", "",64⟩,⟨"Int",2,7,false, "", "",112⟩,⟨"Place",30,8,false, "", "",120⟩,⟨"Exprs",31,10,false, "", "",160⟩,⟨"Body",124,11,false, "", "",184⟩,⟨"Else",124,12,false, "", "",208⟩,⟨"Arms",150,13,false, "", "",232⟩,⟨"At",3,14,false, "", "",256⟩],15,264,.agg #[.int .u8 0,.string ByteArray.empty,.string ByteArray.empty,.slice none 0 0,.int .u8 0,.string ByteArray.empty,.slice none 0 0,.int .i64 0,.string ByteArray.empty,.slice none 0 0,.slice none 0 0,.slice none 0 0,.slice none 0 0,.slice none 0 0,.int .i64 0],[.d (.int .u8 0),.d (.str ByteArray.empty),.d (.str ByteArray.empty),.nils false 1,.d (.int .u8 0),.d (.str ByteArray.empty),.nils true 3,.d (.int .i64 0),.d (.str ByteArray.empty),.nils false 1,.nils true 8,.nils true 15,.nils true 15,.nils true 3,.d (.int .i64 0)]⟩),
 (153,⟨.struct #[⟨"Variant",9,0,false, "", "",0⟩,⟨"Name",9,1,false, "", "",16⟩,⟨"Body",124,2,false, "", "",32⟩],3,56,.agg #[.string ByteArray.empty,.string ByteArray.empty,.slice none 0 0],[.d (.str ByteArray.empty),.d (.str ByteArray.empty),.nils true 15]⟩),
 (154,⟨.struct #[⟨"Variant",9,0,false, "", "",0⟩,⟨"Name",9,1,false, "", "",16⟩,⟨"Body",124,2,false, "", "",32⟩],3,56,.agg #[.string ByteArray.empty,.string ByteArray.empty,.slice none 0 0],[.d (.str ByteArray.empty),.d (.str ByteArray.empty),.nils true 15]⟩),
 (155,⟨.func #[46,3] #[3] false,1,8,.nilFunc,[.nilf]⟩),
 (156,⟨.func #[46] #[46] false,1,8,.nilFunc,[.nilf]⟩),
 (157,⟨.func #[49,3] #[5] false,1,8,.nilFunc,[.nilf]⟩),
 (158,⟨.func #[49,3] #[3] false,1,8,.nilFunc,[.nilf]⟩),
 (159,⟨.func #[49,47] #[49] false,1,8,.nilFunc,[.nilf]⟩)]
def tabC10:List (Nat×TI):=[(160,⟨.func #[47,47] #[4] false,1,8,.nilFunc,[.nilf]⟩),
 (161,⟨.pointer 165,1,8,.pointer none,[.nilp]⟩),
 (162,⟨.func #[3] #[161] false,1,8,.nilFunc,[.nilf]⟩),
 (163,⟨.array 8 49,48,704,.agg #[.int .u8 0,.int .i64 0,.string ByteArray.empty,.slice none 0 0,.int .i64 0,.slice none 0 0,.int .u8 0,.int .i64 0,.string ByteArray.empty,.slice none 0 0,.int .i64 0,.slice none 0 0,.int .u8 0,.int .i64 0,.string ByteArray.empty,.slice none 0 0,.int .i64 0,.slice none 0 0,.int .u8 0,.int .i64 0,.string ByteArray.empty,.slice none 0 0,.int .i64 0,.slice none 0 0,.int .u8 0,.int .i64 0,.string ByteArray.empty,.slice none 0 0,.int .i64 0,.slice none 0 0,.int .u8 0,.int .i64 0,.string ByteArray.empty,.slice none 0 0,.int .i64 0,.slice none 0 0,.int .u8 0,.int .i64 0,.string ByteArray.empty,.slice none 0 0,.int .i64 0,.slice none 0 0,.int .u8 0,.int .i64 0,.string ByteArray.empty,.slice none 0 0,.int .i64 0,.slice none 0 0],[.d (.int .u8 0),.d (.int .i64 0),.d (.str ByteArray.empty),.nils true 6,.d (.int .i64 0),.nils false 1,.d (.int .u8 0),.d (.int .i64 0),.d (.str ByteArray.empty),.nils true 6,.d (.int .i64 0),.nils false 1,.d (.int .u8 0),.d (.int .i64 0),.d (.str ByteArray.empty),.nils true 6,.d (.int .i64 0),.nils false 1,.d (.int .u8 0),.d (.int .i64 0),.d (.str ByteArray.empty),.nils true 6,.d (.int .i64 0),.nils false 1,.d (.int .u8 0),.d (.int .i64 0),.d (.str ByteArray.empty),.nils true 6,.d (.int .i64 0),.nils false 1,.d (.int .u8 0),.d (.int .i64 0),.d (.str ByteArray.empty),.nils true 6,.d (.int .i64 0),.nils false 1,.d (.int .u8 0),.d (.int .i64 0),.d (.str ByteArray.empty),.nils true 6,.d (.int .i64 0),.nils false 1,.d (.int .u8 0),.d (.int .i64 0),.d (.str ByteArray.empty),.nils true 6,.d (.int .i64 0),.nils false 1]⟩),
 (164,⟨.struct #[⟨"room",3,0,false, "", "weftway/queues",0⟩,⟨"first",3,1,false, "", "weftway/queues",8⟩,⟨"n",3,2,false, "", "weftway/queues",16⟩,⟨"l",163,3,false, "", "weftway/queues",24⟩],51,728,.agg #[.int .i64 0,.int .i64 0,.int .i64 0,.int .u8 0,.int .i64 0,.string ByteArray.empty,.slice none 0 0,.int .i64 0,.slice none 0 0,.int .u8 0,.int .i64 0,.string ByteArray.empty,.slice none 0 0,.int .i64 0,.slice none 0 0,.int .u8 0,.int .i64 0,.string ByteArray.empty,.slice none 0 0,.int .i64 0,.slice none 0 0,.int .u8 0,.int .i64 0,.string ByteArray.empty,.slice none 0 0,.int .i64 0,.slice none 0 0,.int .u8 0,.int .i64 0,.string ByteArray.empty,.slice none 0 0,.int .i64 0,.slice none 0 0,.int .u8 0,.int .i64 0,.string ByteArray.empty,.slice none 0 0,.int .i64 0,.slice none 0 0,.int .u8 0,.int .i64 0,.string ByteArray.empty,.slice none 0 0,.int .i64 0,.slice none 0 0,.int .u8 0,.int .i64 0,.string ByteArray.empty,.slice none 0 0,.int .i64 0,.slice none 0 0],[.d (.int .i64 0),.d (.int .i64 0),.d (.int .i64 0),.d (.int .u8 0),.d (.int .i64 0),.d (.str ByteArray.empty),.nils true 6,.d (.int .i64 0),.nils false 1,.d (.int .u8 0),.d (.int .i64 0),.d (.str ByteArray.empty),.nils true 6,.d (.int .i64 0),.nils false 1,.d (.int .u8 0),.d (.int .i64 0),.d (.str ByteArray.empty),.nils true 6,.d (.int .i64 0),.nils false 1,.d (.int .u8 0),.d (.int .i64 0),.d (.str ByteArray.empty),.nils true 6,.d (.int .i64 0),.nils false 1,.d (.int .u8 0),.d (.int .i64 0),.d (.str ByteArray.empty),.nils true 6,.d (.int .i64 0),.nils false 1,.d (.int .u8 0),.d (.int .i64 0),.d (.str ByteArray.empty),.nils true 6,.d (.int .i64 0),.nils false 1,.d (.int .u8 0),.d (.int .i64 0),.d (.str ByteArray.empty),.nils true 6,.d (.int .i64 0),.nils false 1,.d (.int .u8 0),.d (.int .i64 0),.d (.str ByteArray.empty),.nils true 6,.d (.int .i64 0),.nils false 1]⟩),
 (165,⟨.struct #[⟨"room",3,0,false, "", "weftway/queues",0⟩,⟨"first",3,1,false, "", "weftway/queues",8⟩,⟨"n",3,2,false, "", "weftway/queues",16⟩,⟨"l",163,3,false, "", "weftway/queues",24⟩],51,728,.agg #[.int .i64 0,.int .i64 0,.int .i64 0,.int .u8 0,.int .i64 0,.string ByteArray.empty,.slice none 0 0,.int .i64 0,.slice none 0 0,.int .u8 0,.int .i64 0,.string ByteArray.empty,.slice none 0 0,.int .i64 0,.slice none 0 0,.int .u8 0,.int .i64 0,.string ByteArray.empty,.slice none 0 0,.int .i64 0,.slice none 0 0,.int .u8 0,.int .i64 0,.string ByteArray.empty,.slice none 0 0,.int .i64 0,.slice none 0 0,.int .u8 0,.int .i64 0,.string ByteArray.empty,.slice none 0 0,.int .i64 0,.slice none 0 0,.int .u8 0,.int .i64 0,.string ByteArray.empty,.slice none 0 0,.int .i64 0,.slice none 0 0,.int .u8 0,.int .i64 0,.string ByteArray.empty,.slice none 0 0,.int .i64 0,.slice none 0 0,.int .u8 0,.int .i64 0,.string ByteArray.empty,.slice none 0 0,.int .i64 0,.slice none 0 0],[.d (.int .i64 0),.d (.int .i64 0),.d (.int .i64 0),.d (.int .u8 0),.d (.int .i64 0),.d (.str ByteArray.empty),.nils true 6,.d (.int .i64 0),.nils false 1,.d (.int .u8 0),.d (.int .i64 0),.d (.str ByteArray.empty),.nils true 6,.d (.int .i64 0),.nils false 1,.d (.int .u8 0),.d (.int .i64 0),.d (.str ByteArray.empty),.nils true 6,.d (.int .i64 0),.nils false 1,.d (.int .u8 0),.d (.int .i64 0),.d (.str ByteArray.empty),.nils true 6,.d (.int .i64 0),.nils false 1,.d (.int .u8 0),.d (.int .i64 0),.d (.str ByteArray.empty),.nils true 6,.d (.int .i64 0),.nils false 1,.d (.int .u8 0),.d (.int .i64 0),.d (.str ByteArray.empty),.nils true 6,.d (.int .i64 0),.nils false 1,.d (.int .u8 0),.d (.int .i64 0),.d (.str ByteArray.empty),.nils true 6,.d (.int .i64 0),.nils false 1,.d (.int .u8 0),.d (.int .i64 0),.d (.str ByteArray.empty),.nils true 6,.d (.int .i64 0),.nils false 1]⟩),
 (166,⟨.func #[] #[49] false,1,8,.nilFunc,[.nilf]⟩),
 (167,⟨.func #[203] #[] false,1,8,.nilFunc,[.nilf]⟩),
 (168,⟨.func #[203] #[] false,1,8,.nilFunc,[.nilf]⟩),
 (169,⟨.func #[] #[168] false,1,8,.nilFunc,[.nilf]⟩),
 (170,⟨.struct #[⟨"ID",3,0,false, "", "",0⟩,⟨"Room",3,1,false, "", "",8⟩,⟨"L",46,2,false, "", "",16⟩],3,40,.agg #[.int .i64 0,.int .i64 0,.slice none 0 0],[.d (.int .i64 0),.d (.int .i64 0),.nils true 6]⟩),
 (171,⟨.struct #[⟨"ID",3,0,false, "", "",0⟩,⟨"Room",3,1,false, "", "",8⟩,⟨"L",46,2,false, "", "",16⟩],3,40,.agg #[.int .i64 0,.int .i64 0,.slice none 0 0],[.d (.int .i64 0),.d (.int .i64 0),.nils true 6]⟩),
 (172,⟨.struct #[⟨"v",49,0,false, "", "weftway/heap",0⟩,⟨"freed",4,6,false, "", "weftway/heap",88⟩],7,96,.agg #[.int .u8 0,.int .i64 0,.string ByteArray.empty,.slice none 0 0,.int .i64 0,.slice none 0 0,.bool false],[.d (.int .u8 0),.d (.int .i64 0),.d (.str ByteArray.empty),.nils true 6,.d (.int .i64 0),.nils false 1,.d (.bool false)]⟩),
 (173,⟨.struct #[⟨"v",49,0,false, "", "weftway/heap",0⟩,⟨"freed",4,6,false, "", "weftway/heap",88⟩],7,96,.agg #[.int .u8 0,.int .i64 0,.string ByteArray.empty,.slice none 0 0,.int .i64 0,.slice none 0 0,.bool false],[.d (.int .u8 0),.d (.int .i64 0),.d (.str ByteArray.empty),.nils true 6,.d (.int .i64 0),.nils false 1,.d (.bool false)]⟩),
 (174,⟨.func #[3,175] #[5] false,1,8,.nilFunc,[.nilf]⟩),
 (175,⟨.func #[49] #[49,5] false,1,8,.nilFunc,[.nilf]⟩)]
def tabC11:List (Nat×TI):=[(177,⟨.func #[49] #[3,3] false,1,8,.nilFunc,[.nilf]⟩),
 (178,⟨.func #[3,47] #[49,3] false,1,8,.nilFunc,[.nilf]⟩),
 (179,⟨.func #[3,47,49] #[3] false,1,8,.nilFunc,[.nilf]⟩),
 (180,⟨.func #[3,47,49] #[49,3] false,1,8,.nilFunc,[.nilf]⟩),
 (181,⟨.func #[3] #[49,3] false,1,8,.nilFunc,[.nilf]⟩),
 (182,⟨.struct #[⟨"V",49,0,false, "", "",0⟩,⟨"Freed",4,6,false, "", "",88⟩],7,96,.agg #[.int .u8 0,.int .i64 0,.string ByteArray.empty,.slice none 0 0,.int .i64 0,.slice none 0 0,.bool false],[.d (.int .u8 0),.d (.int .i64 0),.d (.str ByteArray.empty),.nils true 6,.d (.int .i64 0),.nils false 1,.d (.bool false)]⟩),
 (183,⟨.struct #[⟨"V",49,0,false, "", "",0⟩,⟨"Freed",4,6,false, "", "",88⟩],7,96,.agg #[.int .u8 0,.int .i64 0,.string ByteArray.empty,.slice none 0 0,.int .i64 0,.slice none 0 0,.bool false],[.d (.int .u8 0),.d (.int .i64 0),.d (.str ByteArray.empty),.nils true 6,.d (.int .i64 0),.nils false 1,.d (.bool false)]⟩),
 (184,⟨.func #[28] #[] false,1,8,.nilFunc,[.nilf]⟩),
 (185,⟨.func #[30] #[] false,1,8,.nilFunc,[.nilf]⟩),
 (186,⟨.func #[124,124,187] #[4] false,1,8,.nilFunc,[.nilf]⟩),
 (187,⟨.func #[152,152] #[4] false,1,8,.nilFunc,[.nilf]⟩),
 (188,⟨.func #[28,28] #[4] false,1,8,.nilFunc,[.nilf]⟩),
 (189,⟨.func #[30] #[30] false,1,8,.nilFunc,[.nilf]⟩),
 (190,⟨.func #[33] #[33] false,1,8,.nilFunc,[.nilf]⟩),
 (191,⟨.func #[152] #[152] false,1,8,.nilFunc,[.nilf]⟩)]
def tabC12:List (Nat×TI):=[(192,⟨.func #[25,146] #[25] false,1,8,.nilFunc,[.nilf]⟩),
 (193,⟨.func #[28] #[28] false,1,8,.nilFunc,[.nilf]⟩),
 (194,⟨.func #[31,190] #[31] false,1,8,.nilFunc,[.nilf]⟩),
 (195,⟨.func #[124,191] #[124] false,1,8,.nilFunc,[.nilf]⟩),
 (196,⟨.func #[154] #[154] false,1,8,.nilFunc,[.nilf]⟩),
 (197,⟨.func #[150,196] #[150] false,1,8,.nilFunc,[.nilf]⟩),
 (198,⟨.func #[136] #[136] false,1,8,.nilFunc,[.nilf]⟩),
 (199,⟨.func #[22,201] #[22] false,1,8,.nilFunc,[.nilf]⟩),
 (200,⟨.func #[123,198] #[123] false,1,8,.nilFunc,[.nilf]⟩),
 (201,⟨.func #[126] #[126] false,1,8,.nilFunc,[.nilf]⟩),
 (202,⟨.func #[47] #[47] false,1,8,.nilFunc,[.nilf]⟩),
 (203,⟨.func #[49] #[4] false,1,8,.nilFunc,[.nilf]⟩),
 (205,⟨.func #[150,150,206] #[4] false,1,8,.nilFunc,[.nilf]⟩),
 (206,⟨.func #[154,154] #[4] false,1,8,.nilFunc,[.nilf]⟩),
 (207,⟨.func #[] #[9] false,1,8,.nilFunc,[.nilf]⟩)]
def tabC13:List (Nat×TI):=[(208,⟨.struct #[⟨"_interface",17,0,false, "", "runtime",0⟩,⟨"concrete",17,1,false, "", "runtime",8⟩,⟨"asserted",17,2,false, "", "runtime",16⟩,⟨"missingMethod",9,3,false, "", "runtime",24⟩],4,40,.agg #[.pointer none,.pointer none,.pointer none,.string ByteArray.empty],[.nilp,.nilp,.nilp,.d (.str ByteArray.empty)]⟩),
 (209,⟨.struct #[⟨"_interface",17,0,false, "", "runtime",0⟩,⟨"concrete",17,1,false, "", "runtime",8⟩,⟨"asserted",17,2,false, "", "runtime",16⟩,⟨"missingMethod",9,3,false, "", "runtime",24⟩],4,40,.agg #[.pointer none,.pointer none,.pointer none,.string ByteArray.empty],[.nilp,.nilp,.nilp,.d (.str ByteArray.empty)]⟩),
 (213,⟨.int .u32,1,4,.int .u32 0,[.d (.int .u32 0)]⟩),
 (214,⟨.int .u8,1,1,.int .u8 0,[.d (.int .u8 0)]⟩),
 (215,⟨.int .u8,1,1,.int .u8 0,[.d (.int .u8 0)]⟩),
 (216,⟨.func #[222,222] #[4] false,1,8,.nilFunc,[.nilf]⟩),
 (217,⟨.pointer 5,1,8,.pointer none,[.nilp]⟩),
 (218,⟨.int .i32,1,4,.int .i32 0,[.d (.int .i32 0)]⟩),
 (219,⟨.int .i32,1,4,.int .i32 0,[.d (.int .i32 0)]⟩),
 (220,⟨.struct #[⟨"Size_",12,0,false, "", "",0⟩,⟨"PtrBytes",12,1,false, "", "",8⟩,⟨"Hash",213,2,false, "", "",16⟩,⟨"TFlag",214,3,false, "", "",20⟩,⟨"Align_",5,4,false, "", "",21⟩,⟨"FieldAlign_",5,5,false, "", "",22⟩,⟨"Kind_",215,6,false, "", "",23⟩,⟨"Equal",216,7,false, "", "",24⟩,⟨"GCData",217,8,false, "", "",32⟩,⟨"Str",218,9,false, "", "",40⟩,⟨"PtrToThis",219,10,false, "", "",44⟩],11,48,.agg #[.int .u64 0,.int .u64 0,.int .u32 0,.int .u8 0,.int .u8 0,.int .u8 0,.int .u8 0,.nilFunc,.pointer none,.int .i32 0,.int .i32 0],[.d (.int .u64 0),.d (.int .u64 0),.d (.int .u32 0),.d (.int .u8 0),.d (.int .u8 0),.d (.int .u8 0),.d (.int .u8 0),.nilf,.nilp,.d (.int .i32 0),.d (.int .i32 0)]⟩),
 (221,⟨.struct #[⟨"Size_",12,0,false, "", "",0⟩,⟨"PtrBytes",12,1,false, "", "",8⟩,⟨"Hash",213,2,false, "", "",16⟩,⟨"TFlag",214,3,false, "", "",20⟩,⟨"Align_",5,4,false, "", "",21⟩,⟨"FieldAlign_",5,5,false, "", "",22⟩,⟨"Kind_",215,6,false, "", "",23⟩,⟨"Equal",216,7,false, "", "",24⟩,⟨"GCData",217,8,false, "", "",32⟩,⟨"Str",218,9,false, "", "",40⟩,⟨"PtrToThis",219,10,false, "", "",44⟩],11,48,.agg #[.int .u64 0,.int .u64 0,.int .u32 0,.int .u8 0,.int .u8 0,.int .u8 0,.int .u8 0,.nilFunc,.pointer none,.int .i32 0,.int .i32 0],[.d (.int .u64 0),.d (.int .u64 0),.d (.int .u32 0),.d (.int .u8 0),.d (.int .u8 0),.d (.int .u8 0),.d (.int .u8 0),.nilf,.nilp,.d (.int .i32 0),.d (.int .i32 0)]⟩)]
def tabAll:List (List (Nat×TI)):=[tabC0,tabC1,tabC2,tabC3,tabC4,tabC5,tabC6,tabC7,tabC8,tabC9,tabC10,tabC11,tabC12,tabC13]
def tab:Types:=tabOf tabAll
theorem tabG0:allGood Try.prog tabC0:=⟨⟨by kernel_rfl,by kernel_rfl,by kernel_rfl⟩,⟨by kernel_rfl,by kernel_rfl,by kernel_rfl⟩,⟨by kernel_rfl,by kernel_rfl,by kernel_rfl⟩,⟨by kernel_rfl,by kernel_rfl,by kernel_rfl⟩,⟨by kernel_rfl,by kernel_rfl,by kernel_rfl⟩,⟨by kernel_rfl,by kernel_rfl,by kernel_rfl⟩,⟨by kernel_rfl,by kernel_rfl,by kernel_rfl⟩,⟨by kernel_rfl,by kernel_rfl,by kernel_rfl⟩,⟨by kernel_rfl,by kernel_rfl,by kernel_rfl⟩,⟨by kernel_rfl,by kernel_rfl,by kernel_rfl⟩,⟨by kernel_rfl,by kernel_rfl,by kernel_rfl⟩,⟨by kernel_rfl,by kernel_rfl,by kernel_rfl⟩,⟨by kernel_rfl,by kernel_rfl,by kernel_rfl⟩,⟨by kernel_rfl,by kernel_rfl,by kernel_rfl⟩,⟨by kernel_rfl,by kernel_rfl,by kernel_rfl⟩,trivial⟩
theorem tabG1:allGood Try.prog tabC1:=⟨⟨by kernel_rfl,by kernel_rfl,by kernel_rfl⟩,⟨by kernel_rfl,by kernel_rfl,by kernel_rfl⟩,⟨by kernel_rfl,by kernel_rfl,by kernel_rfl⟩,⟨by kernel_rfl,by kernel_rfl,by kernel_rfl⟩,⟨by kernel_rfl,by kernel_rfl,by kernel_rfl⟩,⟨by kernel_rfl,by kernel_rfl,by kernel_rfl⟩,⟨by kernel_rfl,by kernel_rfl,by kernel_rfl⟩,⟨by kernel_rfl,by kernel_rfl,by kernel_rfl⟩,⟨by kernel_rfl,by kernel_rfl,by kernel_rfl⟩,⟨by kernel_rfl,by kernel_rfl,by kernel_rfl⟩,⟨by kernel_rfl,by kernel_rfl,by kernel_rfl⟩,⟨by kernel_rfl,by kernel_rfl,by kernel_rfl⟩,⟨by kernel_rfl,by kernel_rfl,by kernel_rfl⟩,⟨by kernel_rfl,by kernel_rfl,by kernel_rfl⟩,⟨by kernel_rfl,by kernel_rfl,by kernel_rfl⟩,trivial⟩
theorem tabG2:allGood Try.prog tabC2:=⟨⟨by kernel_rfl,by kernel_rfl,by kernel_rfl⟩,⟨by kernel_rfl,by kernel_rfl,by kernel_rfl⟩,⟨by kernel_rfl,by kernel_rfl,by kernel_rfl⟩,⟨by kernel_rfl,by kernel_rfl,by kernel_rfl⟩,⟨by kernel_rfl,by kernel_rfl,by kernel_rfl⟩,⟨by kernel_rfl,by kernel_rfl,by kernel_rfl⟩,⟨by kernel_rfl,by kernel_rfl,by kernel_rfl⟩,⟨by kernel_rfl,by kernel_rfl,by kernel_rfl⟩,⟨by kernel_rfl,by kernel_rfl,by kernel_rfl⟩,⟨by kernel_rfl,by kernel_rfl,by kernel_rfl⟩,⟨by kernel_rfl,by kernel_rfl,by kernel_rfl⟩,⟨by kernel_rfl,by kernel_rfl,by kernel_rfl⟩,⟨by kernel_rfl,by kernel_rfl,by kernel_rfl⟩,⟨by kernel_rfl,by kernel_rfl,by kernel_rfl⟩,⟨by kernel_rfl,by kernel_rfl,by kernel_rfl⟩,⟨by kernel_rfl,by kernel_rfl,by kernel_rfl⟩,trivial⟩
theorem tabG3:allGood Try.prog tabC3:=⟨⟨by kernel_rfl,by kernel_rfl,by kernel_rfl⟩,⟨by kernel_rfl,by kernel_rfl,by kernel_rfl⟩,⟨by kernel_rfl,by kernel_rfl,by kernel_rfl⟩,⟨by kernel_rfl,by kernel_rfl,by kernel_rfl⟩,⟨by kernel_rfl,by kernel_rfl,by kernel_rfl⟩,⟨by kernel_rfl,by kernel_rfl,by kernel_rfl⟩,⟨by kernel_rfl,by kernel_rfl,by kernel_rfl⟩,⟨by kernel_rfl,by kernel_rfl,by kernel_rfl⟩,⟨by kernel_rfl,by kernel_rfl,by kernel_rfl⟩,⟨by kernel_rfl,by kernel_rfl,by kernel_rfl⟩,⟨by kernel_rfl,by kernel_rfl,by kernel_rfl⟩,⟨by kernel_rfl,by kernel_rfl,by kernel_rfl⟩,⟨by kernel_rfl,by kernel_rfl,by kernel_rfl⟩,⟨by kernel_rfl,by kernel_rfl,by kernel_rfl⟩,trivial⟩
theorem tabG4:allGood Try.prog tabC4:=⟨⟨by kernel_rfl,by kernel_rfl,by kernel_rfl⟩,⟨by kernel_rfl,by kernel_rfl,by kernel_rfl⟩,⟨by kernel_rfl,by kernel_rfl,by kernel_rfl⟩,⟨by kernel_rfl,by kernel_rfl,by kernel_rfl⟩,⟨by kernel_rfl,by kernel_rfl,by kernel_rfl⟩,⟨by kernel_rfl,by kernel_rfl,by kernel_rfl⟩,⟨by kernel_rfl,by kernel_rfl,by kernel_rfl⟩,⟨by kernel_rfl,by kernel_rfl,by kernel_rfl⟩,⟨by kernel_rfl,by kernel_rfl,by kernel_rfl⟩,⟨by kernel_rfl,by kernel_rfl,by kernel_rfl⟩,⟨by kernel_rfl,by kernel_rfl,by kernel_rfl⟩,⟨by kernel_rfl,by kernel_rfl,by kernel_rfl⟩,⟨by kernel_rfl,by kernel_rfl,by kernel_rfl⟩,⟨by kernel_rfl,by kernel_rfl,by kernel_rfl⟩,⟨by kernel_rfl,by kernel_rfl,by kernel_rfl⟩,trivial⟩
theorem tabG5:allGood Try.prog tabC5:=⟨⟨by kernel_rfl,by kernel_rfl,by kernel_rfl⟩,⟨by kernel_rfl,by kernel_rfl,by kernel_rfl⟩,⟨by kernel_rfl,by kernel_rfl,by kernel_rfl⟩,⟨by kernel_rfl,by kernel_rfl,by kernel_rfl⟩,⟨by kernel_rfl,by kernel_rfl,by kernel_rfl⟩,⟨by kernel_rfl,by kernel_rfl,by kernel_rfl⟩,⟨by kernel_rfl,by kernel_rfl,by kernel_rfl⟩,⟨by kernel_rfl,by kernel_rfl,by kernel_rfl⟩,⟨by kernel_rfl,by kernel_rfl,by kernel_rfl⟩,⟨by kernel_rfl,by kernel_rfl,by kernel_rfl⟩,⟨by kernel_rfl,by kernel_rfl,by kernel_rfl⟩,⟨by kernel_rfl,by kernel_rfl,by kernel_rfl⟩,⟨by kernel_rfl,by kernel_rfl,by kernel_rfl⟩,⟨by kernel_rfl,by kernel_rfl,by kernel_rfl⟩,⟨by kernel_rfl,by kernel_rfl,by kernel_rfl⟩,⟨by kernel_rfl,by kernel_rfl,by kernel_rfl⟩,trivial⟩
theorem tabG6:allGood Try.prog tabC6:=⟨⟨by kernel_rfl,by kernel_rfl,by kernel_rfl⟩,⟨by kernel_rfl,by kernel_rfl,by kernel_rfl⟩,⟨by kernel_rfl,by kernel_rfl,by kernel_rfl⟩,⟨by kernel_rfl,by kernel_rfl,by kernel_rfl⟩,⟨by kernel_rfl,by kernel_rfl,by kernel_rfl⟩,⟨by kernel_rfl,by kernel_rfl,by kernel_rfl⟩,⟨by kernel_rfl,by kernel_rfl,by kernel_rfl⟩,⟨by kernel_rfl,by kernel_rfl,by kernel_rfl⟩,⟨by kernel_rfl,by kernel_rfl,by kernel_rfl⟩,⟨by kernel_rfl,by kernel_rfl,by kernel_rfl⟩,⟨by kernel_rfl,by kernel_rfl,by kernel_rfl⟩,⟨by kernel_rfl,by kernel_rfl,by kernel_rfl⟩,⟨by kernel_rfl,by kernel_rfl,by kernel_rfl⟩,⟨by kernel_rfl,by kernel_rfl,by kernel_rfl⟩,⟨by kernel_rfl,by kernel_rfl,by kernel_rfl⟩,trivial⟩
theorem tabG7:allGood Try.prog tabC7:=⟨⟨by kernel_rfl,by kernel_rfl,by kernel_rfl⟩,⟨by kernel_rfl,by kernel_rfl,by kernel_rfl⟩,⟨by kernel_rfl,by kernel_rfl,by kernel_rfl⟩,⟨by kernel_rfl,by kernel_rfl,by kernel_rfl⟩,⟨by kernel_rfl,by kernel_rfl,by kernel_rfl⟩,⟨by kernel_rfl,by kernel_rfl,by kernel_rfl⟩,⟨by kernel_rfl,by kernel_rfl,by kernel_rfl⟩,⟨by kernel_rfl,by kernel_rfl,by kernel_rfl⟩,⟨by kernel_rfl,by kernel_rfl,by kernel_rfl⟩,⟨by kernel_rfl,by kernel_rfl,by kernel_rfl⟩,⟨by kernel_rfl,by kernel_rfl,by kernel_rfl⟩,⟨by kernel_rfl,by kernel_rfl,by kernel_rfl⟩,⟨by kernel_rfl,by kernel_rfl,by kernel_rfl⟩,⟨by kernel_rfl,by kernel_rfl,by kernel_rfl⟩,⟨by kernel_rfl,by kernel_rfl,by kernel_rfl⟩,trivial⟩
theorem tabG8:allGood Try.prog tabC8:=⟨⟨by kernel_rfl,by kernel_rfl,by kernel_rfl⟩,⟨by kernel_rfl,by kernel_rfl,by kernel_rfl⟩,⟨by kernel_rfl,by kernel_rfl,by kernel_rfl⟩,⟨by kernel_rfl,by kernel_rfl,by kernel_rfl⟩,⟨by kernel_rfl,by kernel_rfl,by kernel_rfl⟩,⟨by kernel_rfl,by kernel_rfl,by kernel_rfl⟩,⟨by kernel_rfl,by kernel_rfl,by kernel_rfl⟩,⟨by kernel_rfl,by kernel_rfl,by kernel_rfl⟩,⟨by kernel_rfl,by kernel_rfl,by kernel_rfl⟩,⟨by kernel_rfl,by kernel_rfl,by kernel_rfl⟩,⟨by kernel_rfl,by kernel_rfl,by kernel_rfl⟩,⟨by kernel_rfl,by kernel_rfl,by kernel_rfl⟩,⟨by kernel_rfl,by kernel_rfl,by kernel_rfl⟩,⟨by kernel_rfl,by kernel_rfl,by kernel_rfl⟩,⟨by kernel_rfl,by kernel_rfl,by kernel_rfl⟩,⟨by kernel_rfl,by kernel_rfl,by kernel_rfl⟩,trivial⟩
theorem tabG9:allGood Try.prog tabC9:=⟨⟨by kernel_rfl,by kernel_rfl,by kernel_rfl⟩,⟨by kernel_rfl,by kernel_rfl,by kernel_rfl⟩,⟨by kernel_rfl,by kernel_rfl,by kernel_rfl⟩,⟨by kernel_rfl,by kernel_rfl,by kernel_rfl⟩,⟨by kernel_rfl,by kernel_rfl,by kernel_rfl⟩,⟨by kernel_rfl,by kernel_rfl,by kernel_rfl⟩,⟨by kernel_rfl,by kernel_rfl,by kernel_rfl⟩,⟨by kernel_rfl,by kernel_rfl,by kernel_rfl⟩,⟨by kernel_rfl,by kernel_rfl,by kernel_rfl⟩,⟨by kernel_rfl,by kernel_rfl,by kernel_rfl⟩,⟨by kernel_rfl,by kernel_rfl,by kernel_rfl⟩,⟨by kernel_rfl,by kernel_rfl,by kernel_rfl⟩,⟨by kernel_rfl,by kernel_rfl,by kernel_rfl⟩,⟨by kernel_rfl,by kernel_rfl,by kernel_rfl⟩,⟨by kernel_rfl,by kernel_rfl,by kernel_rfl⟩,⟨by kernel_rfl,by kernel_rfl,by kernel_rfl⟩,trivial⟩
theorem tabG10:allGood Try.prog tabC10:=⟨⟨by kernel_rfl,by kernel_rfl,by kernel_rfl⟩,⟨by kernel_rfl,by kernel_rfl,by kernel_rfl⟩,⟨by kernel_rfl,by kernel_rfl,by kernel_rfl⟩,⟨by kernel_rfl,by kernel_rfl,by kernel_rfl⟩,⟨by kernel_rfl,by kernel_rfl,by kernel_rfl⟩,⟨by kernel_rfl,by kernel_rfl,by kernel_rfl⟩,⟨by kernel_rfl,by kernel_rfl,by kernel_rfl⟩,⟨by kernel_rfl,by kernel_rfl,by kernel_rfl⟩,⟨by kernel_rfl,by kernel_rfl,by kernel_rfl⟩,⟨by kernel_rfl,by kernel_rfl,by kernel_rfl⟩,⟨by kernel_rfl,by kernel_rfl,by kernel_rfl⟩,⟨by kernel_rfl,by kernel_rfl,by kernel_rfl⟩,⟨by kernel_rfl,by kernel_rfl,by kernel_rfl⟩,⟨by kernel_rfl,by kernel_rfl,by kernel_rfl⟩,⟨by kernel_rfl,by kernel_rfl,by kernel_rfl⟩,⟨by kernel_rfl,by kernel_rfl,by kernel_rfl⟩,trivial⟩
theorem tabG11:allGood Try.prog tabC11:=⟨⟨by kernel_rfl,by kernel_rfl,by kernel_rfl⟩,⟨by kernel_rfl,by kernel_rfl,by kernel_rfl⟩,⟨by kernel_rfl,by kernel_rfl,by kernel_rfl⟩,⟨by kernel_rfl,by kernel_rfl,by kernel_rfl⟩,⟨by kernel_rfl,by kernel_rfl,by kernel_rfl⟩,⟨by kernel_rfl,by kernel_rfl,by kernel_rfl⟩,⟨by kernel_rfl,by kernel_rfl,by kernel_rfl⟩,⟨by kernel_rfl,by kernel_rfl,by kernel_rfl⟩,⟨by kernel_rfl,by kernel_rfl,by kernel_rfl⟩,⟨by kernel_rfl,by kernel_rfl,by kernel_rfl⟩,⟨by kernel_rfl,by kernel_rfl,by kernel_rfl⟩,⟨by kernel_rfl,by kernel_rfl,by kernel_rfl⟩,⟨by kernel_rfl,by kernel_rfl,by kernel_rfl⟩,⟨by kernel_rfl,by kernel_rfl,by kernel_rfl⟩,⟨by kernel_rfl,by kernel_rfl,by kernel_rfl⟩,trivial⟩
theorem tabG12:allGood Try.prog tabC12:=⟨⟨by kernel_rfl,by kernel_rfl,by kernel_rfl⟩,⟨by kernel_rfl,by kernel_rfl,by kernel_rfl⟩,⟨by kernel_rfl,by kernel_rfl,by kernel_rfl⟩,⟨by kernel_rfl,by kernel_rfl,by kernel_rfl⟩,⟨by kernel_rfl,by kernel_rfl,by kernel_rfl⟩,⟨by kernel_rfl,by kernel_rfl,by kernel_rfl⟩,⟨by kernel_rfl,by kernel_rfl,by kernel_rfl⟩,⟨by kernel_rfl,by kernel_rfl,by kernel_rfl⟩,⟨by kernel_rfl,by kernel_rfl,by kernel_rfl⟩,⟨by kernel_rfl,by kernel_rfl,by kernel_rfl⟩,⟨by kernel_rfl,by kernel_rfl,by kernel_rfl⟩,⟨by kernel_rfl,by kernel_rfl,by kernel_rfl⟩,⟨by kernel_rfl,by kernel_rfl,by kernel_rfl⟩,⟨by kernel_rfl,by kernel_rfl,by kernel_rfl⟩,⟨by kernel_rfl,by kernel_rfl,by kernel_rfl⟩,trivial⟩
theorem tabG13:allGood Try.prog tabC13:=⟨⟨by kernel_rfl,by kernel_rfl,by kernel_rfl⟩,⟨by kernel_rfl,by kernel_rfl,by kernel_rfl⟩,⟨by kernel_rfl,by kernel_rfl,by kernel_rfl⟩,⟨by kernel_rfl,by kernel_rfl,by kernel_rfl⟩,⟨by kernel_rfl,by kernel_rfl,by kernel_rfl⟩,⟨by kernel_rfl,by kernel_rfl,by kernel_rfl⟩,⟨by kernel_rfl,by kernel_rfl,by kernel_rfl⟩,⟨by kernel_rfl,by kernel_rfl,by kernel_rfl⟩,⟨by kernel_rfl,by kernel_rfl,by kernel_rfl⟩,⟨by kernel_rfl,by kernel_rfl,by kernel_rfl⟩,⟨by kernel_rfl,by kernel_rfl,by kernel_rfl⟩,trivial⟩
theorem tab_all:allGoods Try.prog tabAll:=⟨tabG0,tabG1,tabG2,tabG3,tabG4,tabG5,tabG6,tabG7,tabG8,tabG9,tabG10,tabG11,tabG12,tabG13,trivial⟩
theorem tab_ok:TIok Try.prog tab:=tabOf_ok tab_all
theorem tab_one:TIone tab:=tabOf_one tab_all
end Go.Proofs.Ytiiojajgajnhpaa
set_option linter.unusedVariables false
noncomputable section
namespace Go.Proofs.Ytiiojajgajnhpaa
open Go Go.AM
theorem llen6 {l:List D}(h:l.length=6):∃x0 x1 x2 x3 x4 x5,l=[x0,x1,x2,x3,x4,x5]:=by
 match l,h with
 | [x0,x1,x2,x3,x4,x5],_=>exact⟨x0,x1,x2,x3,x4,x5,rfl⟩
theorem llen9 {l:List D}(h:l.length=9):∃x0 x1 x2 x3 x4 x5 x6 x7 x8,l=[x0,x1,x2,x3,x4,x5,x6,x7,x8]:=by
 match l,h with
 | [x0,x1,x2,x3,x4,x5,x6,x7,x8],_=>exact⟨x0,x1,x2,x3,x4,x5,x6,x7,x8,rfl⟩
theorem rs3 {x:D}(h:RowS tab 3 x):∃a0,x= .int .i64 a0∧(Lit.int .i64 a0).wf=true:=by
 have hs:=h.flat1 (y:=tyD tab 3) (by kernel_rfl) rfl
 have hl:=hs.flat 9 3 [3] [x] (by kernel_rfl)
 obtain⟨a0,rfl,w0⟩:=(hl.2 0 x 3 rfl rfl).intS (x:=tyD tab 3) (by kernel_rfl) rfl
 exact⟨_,rfl,w0⟩
theorem rs49 {x:D}(h:RowS tab 49 x):∃a0 a1 a2 a3 a4 a5,x= .agg [.int .u8 a0,.int .i64 a1,.str a2,.list true 6 a3,.int .i64 a4,.list false 1 a5]∧(Lit.int .u8 a0).wf=true∧(Lit.int .i64 a1).wf=true∧a2.size≤maxLen∧ListS tab 49 a3∧(Lit.int .i64 a4).wf=true∧ListS tab 3 a5:=by
 obtain⟨cs,rfl,hs⟩:=h.agg (y:=tyD tab 49) (by kernel_rfl) rfl
 have hl:=hs.flat 9 49 [5,2,9,46,3,47] cs (by kernel_rfl)
 obtain⟨b0,b1,b2,b3,b4,b5,rfl⟩:=llen6 hl.1
 obtain⟨a0,rfl,w0⟩:=(hl.2 0 b0 5 rfl rfl).intS (x:=tyD tab 5) (by kernel_rfl) rfl
 obtain⟨a1,rfl,w1⟩:=(hl.2 1 b1 2 rfl rfl).intS (x:=tyD tab 2) (by kernel_rfl) rfl
 obtain⟨a2,rfl,w2⟩:=(hl.2 2 b2 9 rfl rfl).strS (x:=tyD tab 9) (by kernel_rfl) rfl
 obtain⟨a3,e3,w3⟩:=(hl.2 3 b3 46 rfl rfl).listS (x:=tyD tab 46) (y:=tyD tab 49) (by kernel_rfl) rfl (by kernel_rfl)
 obtain rfl:b3= .list true 6 a3:=e3
 obtain⟨a4,rfl,w4⟩:=(hl.2 4 b4 3 rfl rfl).intS (x:=tyD tab 3) (by kernel_rfl) rfl
 obtain⟨a5,e5,w5⟩:=(hl.2 5 b5 47 rfl rfl).listS (x:=tyD tab 47) (y:=tyD tab 3) (by kernel_rfl) rfl (by kernel_rfl)
 obtain rfl:b5= .list false 1 a5:=e5
 exact⟨_,_,_,_,_,_,rfl,w0,w1,w2,w3,w4,w5⟩
end Go.Proofs.Ytiiojajgajnhpaa
end
set_option linter.unusedVariables false
noncomputable section
namespace Go.Proofs.Ytiiojajgajnhpaa
open Go Go.AM
theorem sm9 {a0:ByteArray}(w0:a0.size≤maxLen):Shape tab 9 [.str a0]:=.str (x:=tyD tab 9) a0 (by kernel_rfl) (by kernel_rfl) w0
theorem sm3 {a0:Int}(w0:(Lit.int .i64 a0).wf=true):Shape tab 3 [.int .i64 a0]:=.int (x:=tyD tab 3) a0 (by kernel_rfl) (by kernel_rfl) w0
theorem sm5 {a0:Int}(w0:(Lit.int .u8 a0).wf=true):Shape tab 5 [.int .u8 a0]:=.int (x:=tyD tab 5) a0 (by kernel_rfl) (by kernel_rfl) w0
theorem sm2 {a0:Int}(w0:(Lit.int .i64 a0).wf=true):Shape tab 2 [.int .i64 a0]:=.int (x:=tyD tab 2) a0 (by kernel_rfl) (by kernel_rfl) w0
theorem sm46 {a0:List D}(w0:ListS tab 49 a0):Shape tab 46 [.list true 6 a0]:=by
 have e:D.list (rowD (tyD tab 49).desc) (tyD tab 49).size a0= .list true 6 a0:=by kernel_rfl
 rw[←e]
 exact w0.shape tab_one (x:=tyD tab 46) (y:=tyD tab 49) (by kernel_rfl) (by kernel_rfl) (by kernel_rfl)
theorem sm47 {a0:List D}(w0:ListS tab 3 a0):Shape tab 47 [.list false 1 a0]:=by
 have e:D.list (rowD (tyD tab 3).desc) (tyD tab 3).size a0= .list false 1 a0:=by kernel_rfl
 rw[←e]
 exact w0.shape tab_one (x:=tyD tab 47) (y:=tyD tab 3) (by kernel_rfl) (by kernel_rfl) (by kernel_rfl)
theorem sm49 {a0:Int}{a1:Int}{a2:ByteArray}{a3:List D}{a4:Int}{a5:List D}(w0:(Lit.int .u8 a0).wf=true) (w1:(Lit.int .i64 a1).wf=true) (w2:a2.size≤maxLen) (w3:ListS tab 49 a3) (w4:(Lit.int .i64 a4).wf=true) (w5:ListS tab 3 a5):Shape tab 49 [.int .u8 a0,.int .i64 a1,.str a2,.list true 6 a3,.int .i64 a4,.list false 1 a5]:=by
 have tt:tab 49=some (tyD tab 49):=by kernel_rfl
 obtain⟨fs,hfs,hall⟩:∃fs,(tyD tab 49).desc= .struct fs∧(fs.toList.all fun f=>[(5,0),(2,1),(9,2),(46,3),(3,4),(47,5)].contains (f.type,f.offset))=true:=⟨(match (tyD tab 49).desc with | .struct fs=>fs | _=>#[]),by kernel_rfl,by kernel_rfl⟩
 refine .struct (x:=tyD tab 49) (fs:=fs) _ tt hfs (by kernel_rfl) (by simp[D.isAgg]) (fun f hf y hy=>?_)
 have hq:=List.all_eq_true.1 hall f hf
 simp only[List.contains_cons,List.contains_nil,Bool.or_false,Bool.or_eq_true,beq_iff_eq,Prod.mk.injEq]at hq
 rcases hq with⟨e1,e2⟩ | ⟨e1,e2⟩ | ⟨e1,e2⟩ | ⟨e1,e2⟩ | ⟨e1,e2⟩ | ⟨e1,e2⟩
 ·rw[e1,show tab 5=some (tyD tab 5)by kernel_rfl]at hy;cases hy;rw[e1,e2,show (tyD tab 5).size=1 by kernel_rfl];exact sm5 w0
 ·rw[e1,show tab 2=some (tyD tab 2)by kernel_rfl]at hy;cases hy;rw[e1,e2,show (tyD tab 2).size=1 by kernel_rfl];exact sm2 w1
 ·rw[e1,show tab 9=some (tyD tab 9)by kernel_rfl]at hy;cases hy;rw[e1,e2,show (tyD tab 9).size=1 by kernel_rfl];exact sm9 w2
 ·rw[e1,show tab 46=some (tyD tab 46)by kernel_rfl]at hy;cases hy;rw[e1,e2,show (tyD tab 46).size=1 by kernel_rfl];exact sm46 w3
 ·rw[e1,show tab 3=some (tyD tab 3)by kernel_rfl]at hy;cases hy;rw[e1,e2,show (tyD tab 3).size=1 by kernel_rfl];exact sm3 w4
 ·rw[e1,show tab 47=some (tyD tab 47)by kernel_rfl]at hy;cases hy;rw[e1,e2,show (tyD tab 47).size=1 by kernel_rfl];exact sm47 w5
theorem mk49 {a0:Int}{a1:Int}{a2:ByteArray}{a3:List D}{a4:Int}{a5:List D}(w0:(Lit.int .u8 a0).wf=true) (w1:(Lit.int .i64 a1).wf=true) (w2:a2.size≤maxLen) (w3:ListS tab 49 a3) (w4:(Lit.int .i64 a4).wf=true) (w5:ListS tab 3 a5):RowS tab 49 (.agg [.int .u8 a0,.int .i64 a1,.str a2,.list true 6 a3,.int .i64 a4,.list false 1 a5]):=⟨sm49 w0 w1 w2 w3 w4 w5,fun y hy=>by rw[show tab 49=some (tyD tab 49)by kernel_rfl]at hy;cases hy;kernel_rfl⟩
end Go.Proofs.Ytiiojajgajnhpaa
end
namespace Go.AM
open Go Go.RowKit
def cvP (p:Id→Bool):CV→Bool
 | .ptr i _=>p i
 | .fn _ cap=>allB p cap
 | .lst i _ _ _=>p i
 | .sl i _=>p i
 | .map i=>p i
 | .ap i _ _ _ _=>p i
 | .ow i=>p i
 | .op i _ _ _=>p i
 | .yl i=>p i
 | _=>true
def v1P (p:Id→Bool):V1→Bool
 | .d _=>true
 | .c x=>cvP p x
 | .agg cs=>allB (cvP p) cs
def avP (p:Id→Bool):AV→Bool
 | .u=>true
 | .v x=>v1P p x
 | .t xs=>allB (v1P p) xs
def objP (p:Id→Bool):AObj→Bool
 | .cells cs=>allB (cvP p) cs
 | .tok ..=>true
 | .map _ _ es=>allB (fun e=>v1P p e.2) es
 | .arr cs1 _ _ _ cs2=>match allB (cvP p) cs1 with
  | true=>allB (cvP p) cs2
  | false=>false
 | .tree _ _ _ _ foc=>match foc with
  | some x=>allB (cvP p) x.2
  | none=>true
 | .pmap _ _ _ _ foc=>match foc with
  | some x=>p x.2
  | none=>true
 | .part ..=>true
 | .gone=>true
 | .rnd _ sl=>allB (fun x=>avP p x.2) sl
 | .rndX _=>true
section
variable {p:Id→Bool}{f e:Id→Id}(hp:∀i,p i=true→f (e i)=i)
include hp
theorem ren_cv {c:CV}(h:cvP p c=true):(c.ren e).ren f=c:=by
 cases c<;>simp only[CV.ren,cvP]at h ⊢
 ·rw[hp _ h]
 ·rw[List.map_map]
  congr 1
  rw[allB_iff]at h
  exact map_same fun i hi=>hp _ (h i hi)
 ·rw[hp _ h]
 ·rw[hp _ h]
 ·rw[hp _ h]
 ·rw[hp _ h]
 ·rw[hp _ h]
 ·rw[hp _ h]
 ·rw[hp _ h]
theorem ren_cvs {cs:List CV}(h:allB (cvP p) cs=true):(cs.map (CV.ren e)).map (CV.ren f)=cs:=by
 rw[List.map_map]
 rw[allB_iff]at h
 exact map_same fun i hi=>ren_cv hp (h i hi)
theorem ren_v1 {c:V1}(h:v1P p c=true):(c.ren e).ren f=c:=by
 cases c<;>simp only[V1.ren,v1P]at h ⊢
 ·rw[ren_cv hp h]
 ·rw[ren_cvs hp h]
theorem ren_av {c:AV}(h:avP p c=true):(c.ren e).ren f=c:=by
 cases c<;>simp only[AV.ren,avP]at h ⊢
 ·rw[ren_v1 hp h]
 ·rw[List.map_map]
  congr 1
  rw[allB_iff]at h
  exact map_same fun i hi=>ren_v1 hp (h i hi)
theorem ren_obj {c:AObj}(h:objP p c=true):(c.ren e).ren f=c:=by
 cases c<;>simp only[AObj.ren,objP]at h ⊢
 ·rw[ren_cvs hp h]
 ·rw[List.map_map]
  congr 1
  rw[allB_iff]at h
  refine map_same fun i hi=>?_
  show (i.1,(i.2.ren e).ren f)=i
  rw[ren_v1 hp (h i hi)]
 ·split at h
  ·rename_i h1
   rw[ren_cvs hp h,ren_cvs hp h1]
  ·cases h
 ·congr 1
  split at h
  ·show some (_,List.map (CV.ren f) (List.map (CV.ren e) _))=_
   rw[ren_cvs hp h]
  ·rfl
 ·congr 1
  split at h
  ·show some (_,f (e _))=_
   rw[hp _ h]
  ·rfl
 ·rw[List.map_map]
  congr 1
  rw[allB_iff]at h
  refine map_same fun i hi=>?_
  show (i.1,(i.2.ren e).ren f)=i
  rw[ren_av hp (h i hi)]
end
theorem weak_ren {σ σ':St}(r:Id→Id) (hext:∀j,r (.ext j)= .ext j) (hbig:∀n,σ'.next≤n→∃N,σ.next≤N∧r (.loc n)= .loc N)
  (hs:∀t,getS σ'.slots t= .u∨getS σ.slots t=(getS σ'.slots t).ren r) (hh:∀i o,getH σ'.heap i=some o→getH σ.heap (r i)=some (o.ren r))
  (hinj:∀i j o o',getH σ'.heap i=some o→getH σ'.heap j=some o'→r i=r j→i=j) (hlow:∀n,σ'.next≤n→getH σ'.heap (.loc n)=none):Weak σ σ':=by
 rintro C a w ⟨g,R⟩
 let g':Ghost:=fun i=>g (r i)
 have hz:∀b o,zone g' (getH σ'.heap) b o→zone g (getH σ.heap) b o:=by
  rintro b o ⟨i,ob,hi,h1⟩
  exact⟨r i,_,hh i ob hi,zone1_ren.2 h1⟩
 have hzz:∀b o,zor (zone g' (getH σ'.heap)) C.X b o→zor (zone g (getH σ.heap)) C.X b o:=fun b o hx=>hx.imp (hz b o) id
 have ht:∀i n sz e,getH σ'.heap i=some (.tok n sz e)→getH σ.heap (r i)=some (.tok n sz e):=fun i n sz e hi=>hh i _ hi
 have hw:∀i,isLive (getH σ'.heap i)=true→isLive (getH σ.heap (r i))=true:=by
  intro i hi
  cases hc:getH σ'.heap i with
  | none=>rw[hc]at hi;cases hi
  | some o=>
   rw[hh i o hc]
   rw[hc]at hi
   exact isLive_ren.trans hi
 refine⟨g',R.size,R.defers,fun t=>?_,⟨fun i o hi=>RelObj.pull (r:=r) (g':=g') hzz (fun _=>rfl) ht hw (R.heap.objs _ _ (hh i o hi)),fun i j oi oj b hi hj bi bj=>?_,fun i oi b o hi bi=>R.heap.apart _ _ b o (hh i oi hi) (Obk_ren.2 bi)⟩,R.frame,fun j=>?_,
  fun j ob b o hj hz'=>R.within _ _ b o (hh j ob hj) (zone1_ren.2 hz'),R.xs,fun n hn=>⟨?_,hlow n hn⟩⟩
 ·rcases hs t with e | e
  ·rw[e];trivial
  ·have:=R.slots t
   rw[e]at this
   exact RelAV.pull (r:=r) hzz (fun _=>rfl) ht hw this
 ·exact hinj i j oi oj hi hj (R.heap.sep _ _ _ _ b (hh i oi hi) (hh j oj hj) (Obk_ren.2 bi) (Obk_ren.2 bj))
 ·show gsame (C.g0 (.ext j)) (g (r (.ext j)))
  rw[hext]
  exact R.ext j
 ·obtain⟨N,hN,e⟩:=hbig n hn
  show g (r (.loc n))=undef
  rw[e]
  exact (R.free N hN).1
def fstOf:List (Nat×Nat)→Nat→Option Nat
 | [],_=>none
 | (a,b)::l,k=>match Nat.beq a k with
  | true=>some b
  | false=>fstOf l k
def sndOf:List (Nat×Nat)→Nat→Option Nat
 | [],_=>none
 | (a,b)::l,k=>match Nat.beq b k with
  | true=>some a
  | false=>sndOf l k
def invF (l:List (Nat×Nat)):Id→Id
 | .ext j=>.ext j
 | .loc k=>match fstOf l k with
  | some m=>.loc m
  | none=>.loc k
def backF (l:List (Nat×Nat)):Id→Id
 | .ext j=>.ext j
 | .loc k=>match sndOf l k with
  | some m=>.loc m
  | none=>.loc k
def okId (l:List (Nat×Nat)) (n:Nat) (i:Id):Bool:=
 match Id.beq (backF l (invF l i)) i with
 | true=>idB n (invF l i)
 | false=>false
def renS (l:List (Nat×Nat)):List (Nat×AV)→List (Nat×AV)
 | []=>[]
 | (t,x)::r=>(t,x.ren (invF l))::renS l r
def renH (l:List (Nat×Nat)):List (Id×AObj)→List (Id×AObj)
 | []=>[]
 | (i,x)::r=>(invF l i,x.ren (invF l))::renH l r
def keepR (ks:List Nat) (is:List Id) (n:Nat) (l:List (Nat×Nat)) (σ:St) (K:St→Prop):Prop:=
 match keepH σ.heap is with
 | none=>False
 | some hp=>req (allB (fun x:Nat×AV=>avP (okId l n) x.2) (keepS σ.slots ks))<| req (allB (fun x:Id×AObj=>match okId l n x.1 with | true=>objP (okId l n) x.2 | false=>false) hp)<|
   K ⟨renS l (keepS σ.slots ks),renH l hp,n⟩
theorem renS_get {l:List (Nat×Nat)}{s:List (Nat×AV)}(t:Nat):getS (renS l s) t=(getS s t).ren (invF l):=by
 induction s with
 | nil=>rfl
 | cons x s ih=>
  obtain⟨k,v⟩:=x
  show getS ((k,v.ren (invF l))::renS l s) t=_
  rw[getS_cons,getS_cons]
  simp only[]
  split
  ·rfl
  ·exact ih
theorem renH_get {l:List (Nat×Nat)}{p:Id→Bool}{f:Id→Id}(hp:∀i,p i=true→f (invF l i)=i):∀{s:List (Id×AObj)},(∀x∈s,p x.1=true)→∀{i:Id}{o:AObj},getH (renH l s) i=some o→p (f i)=true∧invF l (f i)=i∧∃o',getH s (f i)=some o'∧o=o'.ren (invF l)
 | [],_,i,o,h=>by simp[renH,getH]at h
 | (k,v)::s,hs,i,o,h=>by
  have hk:=hs (k,v) (by simp)
  rw[show renH l ((k,v)::s)=(invF l k,v.ren (invF l))::renH l s from rfl,getH_cons]at h
  simp only[updO]at h
  by_cases e:i=invF l k
  ·rw[if_pos e]at h
   simp at h
   have hf:f i=k:=by rw[e];exact hp k hk
   rw[hf]
   exact⟨hk,e.symm,v,by rw[getH_cons];simp[updO],h.symm⟩
  ·rw[if_neg e]at h
   obtain⟨h1,h2,o',h3,h4⟩:=renH_get hp (fun x hx=>hs x (List.mem_cons_of_mem _ hx)) h
   refine⟨h1,h2,o',?_,h4⟩
   rw[getH_cons]
   simp only[updO]
   rw[if_neg]
   ·exact h3
   ·rintro rfl
    exact e h2.symm
theorem getH_all {q:Id×AObj→Bool}{l:List (Id×AObj)}(h:allB q l=true) {i:Id}{o:AObj}(hi:getH l i=some o):q (i,o)=true:=by
 induction l with
 | nil=>simp[getH]at hi
 | cons x l ih=>
  obtain⟨k,v⟩:=x
  rw[allB_iff]at h
  rw[getH_cons]at hi
  simp only[updO]at hi
  split at hi
  ·rename_i e
   cases hi
   rw[e]
   exact h _ (List.mem_cons_self ..)
  ·exact ih (allB_iff.2 fun x hx=>h x (by simp[hx])) hi
theorem keepR_weak {ks:List Nat}{is:List Id}{n:Nat}{l:List (Nat×Nat)}{σ:St}{K:St→Prop}(h:keepR ks is n l σ K):∃σ',Weak σ σ'∧K σ':=by
 unfold keepR at h
 split at h
 ·exact h.elim
 ·rename_i hp hhp
  obtain⟨h1,h⟩:=req_iff.1 h
  obtain⟨h2,h⟩:=req_iff.1 h
  let N:=max σ.next n
  let f:Id→Id:=fun i=>if idB n i=true then backF l i else .loc N
  have hpf:∀i,okId l n i=true→f (invF l i)=i:=by
   intro i hi
   unfold okId at hi
   split at hi
   ·rename_i hb
    show (if idB n (invF l i)=true then _ else _)=i
    rw[if_pos hi]
    exact Id.beq_iff.1 hb
   ·cases hi
  have hk2:∀x∈hp,okId l n x.1=true∧objP (okId l n) x.2=true:=by
   intro x hx
   have:=allB_iff.1 h2 x hx
   split at this
   ·rename_i hb;exact⟨hb,this⟩
   ·cases this
  have hnew:∀i o,getH (renH l hp) i=some o→okId l n (f i)=true∧invF l (f i)=i∧∃o',getH hp (f i)=some o'∧o=o'.ren (invF l):=fun i o hi=>renH_get hpf (fun x hx=>(hk2 x hx).1) hi
  refine⟨_,weak_ren f (fun j=>by show (if idB n (.ext j)=true then _ else _)=_;simp[idB,backF]) (fun m hm=>⟨N,Nat.le_max_left _ _,?_⟩) (fun t=>?_) (fun i o hi=>?_) (fun i j o o' hi hj e=>?_) (fun m hm=>?_),h⟩
  ·have hm:n≤m:=hm
   have:idB n (.loc m)=false:=by
    cases hb:idB n (.loc m)with
    | false=>rfl
    | true=>simp[idB]at hb;omega
   show (if idB n (.loc m)=true then _ else _)=_
   rw[this];rfl
  ·rw[renS_get]
   rcases keepS_get (l:=σ.slots) (ks:=ks) t with e | e
   ·rw[e];exact .inl rfl
   ·right
    rw[←e]
    exact (ren_av hpf (getS_all (p:=avP (okId l n)) rfl h1 t)).symm
  ·obtain⟨p1,p2,o',p3,rfl⟩:=hnew i o hi
   have hq:=getH_all (q:=fun x=>objP (okId l n) x.2) (allB_iff.2 fun x hx=>(hk2 x hx).2) p3
   rw[ren_obj hpf hq]
   exact (keepH_get hhp _ _ p3).1
  ·obtain⟨_,p2,_⟩:=hnew i o hi
   obtain⟨_,q2,_⟩:=hnew j o' hj
   rw[←p2,←q2,e]
  ·cases hc:getH (renH l hp) (.loc m)with
   | none=>rfl
   | some o=>
    obtain⟨p1,p2,_⟩:=hnew _ o hc
    have hm:n≤m:=hm
    unfold okId at p1
    split at p1
    ·rw[p2]at p1
     simp[idB]at p1
     omega
    ·cases p1
end Go.AM
namespace Go.AM
open Go Go.RowKit
theorem loop_invG {M:Mach}{ex:St→(AExit→St→Prop)→Prop}{σ:St}{K:AExit→St→Prop}(gs:List Gh) (l:List (Nat×Nat)) (ks:List Nat) (is:List Id) (nx:Nat) {T:Type}(S:T→St) (I:T→Prop) (m:T→Nat) (t0:T)
  (hI:I t0) (h0:gh gs σ fun σ=>keepR ks is nx l σ (·=S t0))
  (hr:∀t,I t→ex (S t) fun e σ2=>match e with
   | .normal=>∃n' σ3,n'<m t∧Weak σ2 σ3∧∃t',I t'∧n'=m t'∧σ3=S t'
   | .exit id=>K (.exit id) σ2
   | .ret=>K .ret σ2):M.lock fun _=>loopP ex σ K∨∃n,unrollP ex K n σ:=by
 refine (M.lock_iff _).2<| .inl ⟨fun n σ=>∃t,I t∧n=m t∧σ=S t,m t0,?_,?_⟩
 ·obtain⟨σ1,hw1,h1⟩:=gh_weak h0
  obtain⟨σ',hw,e⟩:=keepR_weak h1
  exact⟨σ',Weak.trans hw1 hw,t0,hI,rfl,e⟩
 ·rintro n σ1 ⟨t,h1,rfl,rfl⟩
  exact hr t h1
theorem loop_nextG {T:Type}{m:T→Nat}{I:T→Prop}{S:T→St}{σ2:St}{k:Nat}(t':T) (gs:List Gh) (l:List (Nat×Nat)) (ks:List Nat) (is:List Id) (nx:Nat) (hI:I t') (hm:m t'<k)
  (hk:gh gs σ2 fun σ=>keepR ks is nx l σ (·=S t')):∃n' σ3,n'<k∧Weak σ2 σ3∧∃t',I t'∧n'=m t'∧σ3=S t':=by
 obtain⟨σ1,hw1,h1⟩:=gh_weak hk
 obtain⟨σ',hw,e⟩:=keepR_weak h1
 exact⟨m t',σ',hm,Weak.trans hw1 hw,t',hI,rfl,e⟩
def lentD:AObj→Option D
 | .tree k ag sz rows foc=>match foc with
  | none=>conD k ag sz rows
  | some _=>none
 | _=>none
def lentB (o:AObj):Bool:=
 match lentD o with
 | some _=>true
 | none=>false
def lendC (n:Nat) (L:List AObj):CV→CV
 | .ow i=>match i with
  | .ext j=>match Nat.blt j n with
   | true=>.ow (.ext j)
   | false=>match L[j - n]? with
    | some o=>match lentD o with
     | some x=>.d x
     | none=>.un
    | none=>.un
  | .loc k=>.ow (.loc k)
 | c=>c
def lendV (n:Nat) (L:List AObj):V1→V1
 | .d x=>.d x
 | .c c=>V1.ofC (lendC n L c)
 | .agg cs=>V1.norm (.agg (cs.map (lendC n L)))
def plC:D→Bool
 | .list _ _ _=>false
 | _=>true
def plD:D→Bool
 | .agg cs=>allB plC cs
 | x=>plC x
def extB (n:Nat):Id→Bool
 | .ext j=>Nat.blt j n
 | .loc _=>true
def plCV (n:Nat):CV→Bool
 | .un=>true
 | .d x=>plD x
 | .ptr i _=>extB n i
 | .nilp=>true
 | .fn _ cap=>allB (extB n) cap
 | .nilf=>true
 | .nils _ _=>true
 | .sl i _=>extB n i
 | .map i=>extB n i
 | .nilm=>true
 | .ap i _ _ _ _=>extB n i
 | .ow i=>extB n i
 | .op i _ _ _=>extB n i
 | .yl i=>extB n i
 | _=>false
def plV (n:Nat):V1→Bool
 | .d x=>plD x
 | .c c=>plCV n c
 | .agg cs=>allB (plCV n) cs
def plA (n:Nat):AV→Bool
 | .u=>true
 | .v x=>plV n x
 | .t xs=>allB (plV n) xs
def plO (n:Nat):AObj→Bool
 | .cells cs=>allB (plCV n) cs
 | .tok ..=>true
 | .tree kd _ _ _ foc=>notFlat kd&&match foc with
  | some x=>allB (plCV n) x.2
  | none=>true
 | .gone=>true
 | .rnd _ sl=>allB (fun x=>plA n x.2) sl
 | .rndX _=>true
 | _=>false
theorem CV.ren_id (c:CV):c.ren (fun i=>i)=c:=by cases c<;>simp[CV.ren]
theorem V1.ren_id (c:V1):c.ren (fun i=>i)=c:=by
 cases c with
 | d x=>rfl
 | c x=>simp[V1.ren,CV.ren_id]
 | agg cs=>simp only[V1.ren];congr 1;exact map_same fun x _=>CV.ren_id x
theorem AObj.ren_id (c:AObj):c.ren (fun i=>i)=c:=by
 have hc:∀cs:List CV,cs.map (CV.ren fun i=>i)=cs:=fun cs=>map_same fun x _=>CV.ren_id x
 cases c with
 | cells cs=>simp only[AObj.ren,hc]
 | tok=>rfl
 | map kt et es=>simp only[AObj.ren];congr 1;exact map_same fun x _=>by simp[V1.ren_id]
 | arr=>simp only[AObj.ren,hc]
 | tree kd ag sz rows foc=>cases foc<;>simp[AObj.ren,hc]
 | pmap n1 sz n rows foc=>cases foc<;>simp[AObj.ren]
 | part=>rfl
 | gone=>rfl
 | rnd r sl=>
  simp only[AObj.ren];congr 1
  refine map_same fun x _=>?_
  show (x.1,x.2.ren fun i=>i)=x
  have:x.2.ren (fun i=>i)=x.2:=by
   cases hx:x.2 with
   | u=>rfl
   | v y=>simp[AV.ren,V1.ren_id]
   | t ys=>simp only[AV.ren];congr 1;exact map_same fun y _=>V1.ren_id y
  rw[this]
 | rndX j=>rfl
section
variable {w:World}{Z Z' X:Zone}{g g':Ghost}{h h':Heap}
theorem plC_any {x:D}{v:Value}(r:RelD w Z x v) (hx:plC x=true) (ha:x.isAgg=false):RelD w Z' x v:=by
 cases r with
 | int k n=>exact .int k n
 | bool b=>exact .bool b
 | str s=>exact .str s
 | nil=>exact .nil
 | box cs v hv=>exact .box cs v hv
 | map sz rows v hv=>exact .map sz rows v hv
 | agg=>cases ha
 | list=>cases hx
theorem plD_any {x:D}{v:Value}(r:RelD w Z x v) (hx:plD x=true):RelD w Z' x v:=by
 cases ha:x.isAgg with
 | true=>
  cases r with
  | agg cs vs hs h1 hr=>exact .agg cs vs hs h1 fun j c u hc hu=>plC_any (hr j c u hc hu) (allB_iff.1 hx c (List.mem_of_getElem? hc)) (h1 c (List.mem_of_getElem? hc))
  | _=>cases ha
 | false=>
  refine plC_any r ?_ ha
  cases x<;>first | exact hx | cases ha
theorem plCV_any {n:Nat}(hg:∀i,extB n i=true→g' i=g i) (hh:∀i,extB n i=true→h' i=h i) {c:CV}{v:Value}(r:RelC w Z g h c v) (hc:plCV n c=true):RelC w Z' g' h' c v:=by
 cases c with
 | un=>exact r
 | d x=>exact⟨plD_any r.1 hc,r.2⟩
 | ptr i o=>simp only[RelC,hg i hc]at r ⊢;exact r
 | nilp=>exact r
 | fn f cap=>
  have hc:allB (extB n) cap=true:=hc
  rw[allB_iff]at hc
  obtain⟨r1,r2⟩:=r
  refine⟨?_,fun i hi=>by rw[hg i (hc i hi)];exact r2 i hi⟩
  rw[r1]
  congr 2
  exact List.map_congr_left fun i hi=>by rw[hg i (hc i hi)]
 | nilf=>exact r
 | nils=>exact r
 | sl i k=>simp only[RelC,hg i hc]at r ⊢;exact r
 | map i=>simp only[RelC,hg i hc]at r ⊢;exact r
 | nilm=>exact r
 | ap i b sz k o=>simp only[RelC,hg i hc]at r ⊢;exact r
 | ow i=>simp only[RelC,hg i hc,hh i hc]at r ⊢;exact r
 | op i sz k o=>simp only[RelC,hg i hc,hh i hc]at r ⊢;exact r
 | yl i=>simp only[RelC,hg i hc]at r ⊢;exact r
 | _=>cases hc
theorem plV_any {n:Nat}(hg:∀i,extB n i=true→g' i=g i) (hh:∀i,extB n i=true→h' i=h i) {c:V1}{v:Value}(r:RelV1 w Z g h c v) (hc:plV n c=true):RelV1 w Z' g' h' c v:=by
 cases c with
 | d x=>exact plD_any r hc
 | c x=>exact plCV_any hg hh r hc
 | agg cs=>
  obtain⟨vs,hv,hs,hr⟩:=r
  exact⟨vs,hv,hs,fun j c u h1 h2=>plCV_any hg hh (hr j c u h1 h2) (allB_iff.1 hc c (List.mem_of_getElem? h1))⟩
theorem plA_any {n:Nat}(hg:∀i,extB n i=true→g' i=g i) (hh:∀i,extB n i=true→h' i=h i) {c:AV}{v:Value}(r:RelAV w Z g h c v) (hc:plA n c=true):RelAV w Z' g' h' c v:=by
 cases c with
 | u=>trivial
 | v x=>exact plV_any hg hh r hc
 | t xs=>
  obtain⟨vs,hv,hs,hr⟩:=r
  exact⟨vs,hv,hs,fun j c u h1 h2=>plV_any hg hh (hr j c u h1 h2) (allB_iff.1 hc c (List.mem_of_getElem? h1))⟩
theorem plO_any {n:Nat}(hg:∀i,extB n i=true→g' i=g i) (hh:∀i,extB n i=true→h' i=h i) {o:AObj}{v:Value}(r:RelObj w Z g h o v) (hc:plO n o=true):RelObj w Z' g' h' o v:=by
 cases o with
 | cells cs=>
  obtain⟨b,c,e,hv,hb,hs,hr⟩:=r
  exact⟨b,c,e,hv,hb,hs,fun j x u h1 h2=>plCV_any hg hh (hr j x u h1 h2) (allB_iff.1 hc x (List.mem_of_getElem? h1))⟩
 | tok=>exact r
 | tree kd ag sz rows foc=>
  obtain⟨ht,h0,hf,xs,hx,hcc,U,T,q⟩:=r
  unfold plO at hc
  rw[Bool.and_eq_true]at hc
  obtain⟨hnf,hc⟩:=hc
  have hkf:=notFlat_iff.1 hnf
  refine⟨ht,h0,hf,xs,hx,fun k cs hk=>?_,U,T,fun i r j c h1 h2 h3=>⟨(q.1 i r j c h1 h2 h3).1,(RelK.own hkf).2 ((RelK.own hkf).1 (q.1 i r j c h1 h2 h3).2)⟩,q.2⟩
  subst hk
  obtain⟨p1,p2,p3⟩:=hcc k cs rfl
  exact⟨p1,p2,fun j c u h1 h2=>plCV_any hg hh (p3 j c u h1 h2) (allB_iff.1 hc c (List.mem_of_getElem? h1))⟩
 | gone=>trivial
 | rnd rf sl=>
  obtain⟨l,L,hv,hh',h1,h2,h3,h4,h5,h6,h7⟩:=r
  refine⟨l,L,hv,hh',h1,h2,h3,h4,h5,h6,fun t=>plA_any hg hh (h7 t) ?_⟩
  have hc:allB (fun x=>plA n x.2) sl=true:=hc
  rw[allB_iff]at hc
  exact getS_ind (p:=fun x=>plA n x=true) rfl hc t
 | rndX j=>exact r
 | _=>cases hc
end
theorem Trip.lend {P:Program}{I:Inv}{f:FuncId}{targs targs':List V1}{pre post new:List AObj}{res:AV}(ht:Trip P I f targs pre res post new) (L:List AObj) (hL:allB lentB L=true)
  (he:targs'.map (lendV pre.length L)=targs) (hlen:post.length=pre.length) (hres:plA pre.length res=true) (hpost:allB (plO pre.length) post=true) (hnew:allB (plO pre.length) new=true):
  Trip P I f targs' (pre++L) res (post++L) new:=by
 refine Trip.mk' ht.1 fun w X g vals hX hI RH hgl hsz hargs=>?_
 let n:=pre.length
 let hs:Heap:=heapOf pre
 let hb:Heap:=heapOf (pre++L)
 have sub:∀i o,hs i=some o→hb i=some o∧extB n i=true:=by
  intro i o hi
  cases i with
  | loc k=>simp[hs,heapOf]at hi
  | ext j=>
   have hi:pre[j]?=some o:=hi
   have hlt:=(List.getElem?_eq_some_iff.1 hi).1
   refine⟨?_,by simp[extB,n,hlt]⟩
   show (pre++L)[j]?=some o
   rw[List.getElem?_append_left hlt];exact hi
 have lent:∀i o,hb i=some o→hs i=some o∨∃j,i= .ext j∧n≤j∧L[j - n]?=some o:=by
  intro i o hi
  cases i with
  | loc k=>simp[hb,heapOf]at hi
  | ext j=>
   have hi:(pre++L)[j]?=some o:=hi
   by_cases hj:j<n
   ·rw[List.getElem?_append_left hj]at hi;exact .inl hi
   ·rw[List.getElem?_append_right (by omega)]at hi
    exact .inr ⟨j,rfl,by omega,hi⟩
 have lentO:∀(k:Nat) o,L[k]?=some o→∃kd ag sz rows x,o= .tree kd ag sz rows none∧conD kd ag sz rows=some x:=by
  intro k o hk
  have:=allB_iff.1 hL o (List.mem_of_getElem? hk)
  unfold lentB at this
  cases o with
  | tree kd ag sz rows foc=>
   cases foc with
   | none=>
    simp only[lentD]at this
    split at this
    ·rename_i x hx;exact⟨kd,ag,sz,rows,x,rfl,hx⟩
    ·cases this
   | some _=>simp[lentD]at this
  | _=>simp[lentD]at this
 have zsub:∀b o,zone g hs b o→zone g hb b o:=fun b o ⟨i,ob,hi,h1⟩=>⟨i,ob,(sub i ob hi).1,h1⟩
 have zz:∀b o,zor (zone g hs) X b o→zor (zone g hb) X b o:=fun b o hz=>hz.imp (zsub b o) id
 -- the lent blocks are nobody else's
 have apart:∀j o,n≤j→L[j - n]?=some o→∀b,Blk (g (.ext j)) b→∀q,¬zor (zone g hs) X b q:=by
  intro j o hj ho b hbb q hz
  obtain⟨kd,ag,sz,rows,x,rfl,hx⟩:=lentO _ _ ho
  have hbj:hb (.ext j)=some (.tree kd ag sz rows none):=by
   show (pre++L)[j]?=_
   rw[List.getElem?_append_right (by omega)];exact ho
  rcases hz with⟨i,ob,hi,h1⟩ | hx'
  ·have:=RH.sep i (.ext j) ob _ b (sub i ob hi).1 hbj h1.obk hbb
   subst this
   have:=(sub _ ob hi).2
   simp[extB]at this
   omega
  ·exact RH.apart (.ext j) _ b q hbj hbb hx'
 have RS:RelH w X g hs:=by
  refine⟨fun i o hi=>?_,fun i j oi oj b hi hj bi bj=>RH.sep i j oi oj b (sub i oi hi).1 (sub j oj hj).1 bi bj,fun i oi b o hi bi=>RH.apart i oi b o (sub i oi hi).1 bi⟩
  refine RelObj.pull (r:=fun i=>i) (g:=g) (h:=hb) zz (fun _=>rfl) (fun i n sz e hi=>(sub i _ hi).1) (fun i hi=>?_) (by rw[AObj.ren_id];exact RH.objs i o (sub i o hi).1)
  cases hc:hs i with
  | none=>rw[hc]at hi;cases hi
  | some o=>rw[(sub i o hc).1];rw[hc]at hi;exact hi
 have live:∀i,isLive (hs i)=true→isLive (hb i)=true:=fun i hi=>by
  cases hc:hs i with
  | none=>rw[hc]at hi;cases hi
  | some o=>rw[(sub i o hc).1];rw[hc]at hi;exact hi
 have cv:∀{c:CV} {v:Value},RelC w (zor (zone g hb) X) g hb c v→RelC w (zor (zone g hs) X) g hs (lendC n L c) v:=by
  intro c v hr
  have triv:RelC w (zor (zone g hs) X) g hs c v:=RelC.pull (r:=fun i=>i) (g:=g) (h:=hb) zz (fun _=>rfl) (fun i n sz e hi=>(sub i _ hi).1) live (by rw[CV.ren_id];exact hr)
  cases c with
  | ow i=>
   cases i with
   | loc k=>exact triv
   | ext j=>
    show RelC w _ g hs (match Nat.blt j n with
     | true=>.ow (.ext j)
     | false=>match L[j - n]? with
      | some o=>match lentD o with
       | some x=>.d x
       | none=>.un
      | none=>.un) v
    cases hj:Nat.blt j n with
    | true=>exact triv
    | false=>
     have hj:n≤j:=by
      have:¬j<n:=by
       intro hlt
       have:Nat.blt j n=true:=by simpa using hlt
       rw[this]at hj;cases hj
      omega
     simp only[]
     cases ho:L[j - n]? with
     | none=>exact hr.1
     | some o=>
      obtain⟨kd,ag,sz,rows,x,rfl,hx⟩:=lentO _ _ ho
      have hbj:hb (.ext j)=some (.tree kd ag sz rows none):=by
       show (pre++L)[j]?=_
       rw[List.getElem?_append_right (by omega)];exact ho
      simp only[lentD,hx]
      have hv:=hr.2.2 (by rw[hbj];rfl)
      have ho':=((tree_iff hx).1 (RH.objs _ _ hbj)).2
      rw[hv]
      exact⟨ho'.toD fun b q hb=>apart j _ hj ho b hb q,ho'.isAgg⟩
  | _=>exact triv
 have hargs':∀(j:Nat) x v,targs[j]?=some x→vals[j]?=some v→RelV1 w (zor (zone g hs) X) g hs x v:=by
  intro j x v hx hv
  rw[←he,List.getElem?_map,Option.map_eq_some_iff]at hx
  obtain⟨x',hx',rfl⟩:=hx
  have hr:=hargs j x' v hx' hv
  cases x' with
  | d x=>exact RelD.mono (fun b o u hu hn=>⟨hu,fun hz=>hn (zz b o hz)⟩) hr
  | c c=>exact RelV1.ofC (cv hr)
  | agg cs=>
   obtain⟨vs,hv',hs',hr⟩:=hr
   refine RelV1.norm (show RelV1 w (zor (zone g hs) X) g hs (.agg (cs.map (lendC n L))) v from⟨vs,hv',by simpa using hs',fun q c u hc hu=>?_⟩)
   rw[List.getElem?_map,Option.map_eq_some_iff]at hc
   obtain⟨c',hc',rfl⟩:=hc
   exact cv (hr q c' u hc' hu)
 refine (ht.calls (X:=X) (g:=g) (vals:=vals) hX (hI.mono zz) RS hgl (by rw[hsz,←he];simp) hargs').mono ?_
 rintro e w' ⟨v,g',rfl,CP⟩
 let g2:Ghost:=fun i=>match i with
  | .ext j=>if j<n then g' (.ext j)else g (.ext j)
  | .loc k=>g' (.loc k)
 let hs2:Heap:=heapOf2 post new
 let hb2:Heap:=heapOf2 (post++L) new
 have hg2:∀i,extB n i=true→g2 i=g' i:=by
  intro i hi
  cases i with
  | loc k=>rfl
  | ext j=>
   have:j<n:=by simpa [extB] using hi
   show (if j<n then _ else _)=_
   rw[if_pos this]
 have hh2:∀i,extB n i=true→hb2 i=hs2 i:=by
  intro i hi
  cases i with
  | loc k=>rfl
  | ext j=>
   have:j<n:=by simpa [extB] using hi
   show (post++L)[j]?=post[j]?
   rw[List.getElem?_append_left (by omega)]
 have case2:∀i o,hb2 i=some o→(extB n i=true∧hs2 i=some o)∨∃j,i= .ext j∧n≤j∧L[j - n]?=some o∧g2 i=g i∧hb i=some o:=by
  intro i o hi
  cases i with
  | loc k=>exact .inl ⟨rfl,hi⟩
  | ext j=>
   have hi':(post++L)[j]?=some o:=hi
   by_cases hj:j<n
   ·exact .inl ⟨by simp[extB,hj],by rw[←hh2 _ (by simp[extB,hj])];exact hi⟩
   ·rw[List.getElem?_append_right (by omega),hlen]at hi'
    refine .inr ⟨j,rfl,by omega,hi',?_,?_⟩
    ·show (if j<n then _ else _)=_
     rw[if_neg hj]
    ·show (pre++L)[j]?=_
     rw[List.getElem?_append_right (by omega)];exact hi'
 have small:∀i o,hs2 i=some o→plO n o=true∧extB n i=true:=by
  intro i o hi
  cases i with
  | loc k=>exact⟨allB_iff.1 hnew o (List.mem_of_getElem? (show new[k]?=some o from hi)),rfl⟩
  | ext j=>
   have hi:post[j]?=some o:=hi
   exact⟨allB_iff.1 hpost o (List.mem_of_getElem? hi),by simp[extB,n,←hlen,(List.getElem?_eq_some_iff.1 hi).1]⟩
 have old:∀j o,n≤j→L[j - n]?=some o→hb (.ext j)=some o→∀b,Obk (g (.ext j)) o b→b<w.heap.size∧Blk (g (.ext j)) b:=fun j o hj ho hbj b hb=>⟨(RH.objs _ _ hbj).lt hb,hb.blk⟩
 refine⟨v,g2,rfl,⟨⟨fun i o hi=>?_,fun i j oi oj b hi hj bi bj=>?_,fun i oi b o hi bi=>?_⟩,plA_any hg2 hh2 CP.res hres,CP.frame.weaken zsub,fun j=>?_,fun i ob b o hi hz=>?_,fun k hk=>CP.none k hk⟩⟩
 ·rcases case2 i o hi with⟨h1,h2⟩ | ⟨j,rfl,hj,ho,hg,hbj⟩
  ·rw[hg2 i h1]
   exact plO_any hg2 hh2 (CP.heap.objs i o h2) (small i o h2).1
  ·rw[hg]
   obtain⟨kd,ag,sz,rows,x,rfl,hx⟩:=lentO _ _ ho
   obtain⟨h1,h2⟩:=(tree_iff hx).1 (RH.objs _ _ hbj)
   exact (tree_iff hx).2 ⟨h1,h2.same fun b hb=>CP.frame.block b (h2.lt b hb) (fun q hz=>apart j _ hj ho b hb q (.inl hz))⟩
 ·have mixed:∀i j oi oj,extB n i=true→hs2 i=some oi→∀k,j= .ext k→n≤k→L[k - n]?=some oj→hb j=some oj→Obk (g' i) oi b→Obk (g j) oj b→False:=by
   rintro i j oi oj h1 h2 k rfl hk ho hbj bi bj
   obtain⟨q,hq⟩:=bi.zone
   obtain⟨p1,p2⟩:=old k oj hk ho hbj b bj
   rcases CP.within i oi b q h2 hq with hz | hz
   ·exact apart k oj hk ho b p2 q (.inl hz)
   ·omega
  rcases case2 i oi hi with⟨h1,h2⟩ | ⟨k,hk1,hk,ho,hg,hbj⟩
  ·rw[hg2 i h1]at bi
   rcases case2 j oj hj with⟨h3,h4⟩ | ⟨k',hk1',hk',ho',hg',hbj'⟩
   ·rw[hg2 j h3]at bj
    exact CP.heap.sep i j oi oj b h2 h4 bi bj
   ·rw[hg']at bj
    exact (mixed i j oi oj h1 h2 k' hk1' hk' ho' hbj' bi bj).elim
  ·rw[hg]at bi
   rcases case2 j oj hj with⟨h3,h4⟩ | ⟨k',hk1',hk',ho',hg',hbj'⟩
   ·rw[hg2 j h3]at bj
    exact (mixed j i oj oi h3 h4 k hk1 hk ho hbj bj bi).elim
   ·rw[hg']at bj
    exact RH.sep i j oi oj b hbj hbj' bi bj
 ·rcases case2 i oi hi with⟨h1,h2⟩ | ⟨k,hk1,hk,ho,hg,hbj⟩
  ·rw[hg2 i h1]at bi
   exact CP.heap.apart i oi b o h2 bi
  ·rw[hg]at bi
   exact RH.apart i oi b o hbj bi
 ·show gsame (g (.ext j)) (if j<n then g' (.ext j)else g (.ext j))
  split
  ·exact CP.ext j
  ·exact .refl _
 ·rcases case2 i ob hi with⟨h1,h2⟩ | ⟨k,hk1,hk,ho,hg,hbj⟩
  ·rw[hg2 i h1]at hz
   rcases CP.within i ob b o h2 hz with h3 | h3
   ·exact .inl (zsub b o h3)
   ·exact .inr h3
  ·rw[hg]at hz
   exact .inl ⟨i,ob,hbj,hz⟩
end Go.AM
namespace Go.AM
open Go Go.RowKit
section
variable {α β γ:Type}
def bS (x:Option (α ⊕ β)) (k1:α→Option γ) (k2:β→Option γ):Option γ:=
 match x with
 | some (.inl a)=>k1 a
 | some (.inr b)=>k2 b
 | none=>none
theorem bS_inv {x:Option (α ⊕ β)}{k1:α→Option γ}{k2:β→Option γ}{r:γ}(h:bS x k1 k2=some r):(∃a,x=some (.inl a)∧k1 a=some r)∨∃b,x=some (.inr b)∧k2 b=some r:=by
 unfold bS at h
 split at h
 ·exact .inl ⟨_,rfl,h⟩
 ·exact .inr ⟨_,rfl,h⟩
 ·cases h
end
section
variable {γ:Type}
def letB (b:Bool) (k:Bool→Option γ):Option γ:=k b
theorem letB_inv {b:Bool}{k:Bool→Option γ}{r:γ}(h:letB b k=some r):∃y,b=y∧k y=some r:=⟨b,rfl,h⟩
end
def cL:Code→Code
 | .seq a _=>a
 | .cond _ a _=>a
 | .block _ b=>b
 | .loop b=>b
 | .rangeFunc _ _ a _=>a
 | c=>c
def cR:Code→Code
 | .seq _ b=>b
 | .cond _ _ b=>b
 | .rangeFunc _ _ _ b=>b
 | c=>c
def cP:Code→Array Tmp
 | .rangeFunc _ p _ _=>p
 | _=>#[]
def bodyOf (fn:Func):Code:=
 match fn.body with
 | some c=>c
 | none=>.skip
def slOK (s:Slots):List (Nat×AV)→Prop
 | []=>True
 | (t,v)::r=>s t=v∧slOK s r
theorem slOK_get {s:Slots}:∀{sl:List (Nat×AV)},slOK s sl→∀t,getS sl t= .u∨getS sl t=s t
 | [],_,_=>.inl rfl
 | (k,v)::r,h,t=>by
  show (match Nat.beq k t with | true=>v | false=>getS r t)= .u∨(match Nat.beq k t with | true=>v | false=>getS r t)=s t
  cases e:Nat.beq k t with
  | true=>exact .inr (by rw[←Nat.eq_of_beq_eq_true e];exact h.1.symm)
  | false=>exact slOK_get h.2 t
theorem eqv_eq {a b q:Bool}(h:(a==b)=q):eqvB a b=q:=(eqvB_eq a b).trans h
theorem eqv_ne {a b q:Bool}(h:(!(a==b))=q):notB (eqvB a b)=q:=by rw[eqvB_eq,notB_eq];exact h
theorem not_eq' {a q:Bool}(h:(!a)=q):notB a=q:=by rw[notB_eq];exact h
theorem seq_go {M:Mach}{ea eb:St→(AExit→St→Prop)→Prop}{σ:St}{K:AExit→St→Prop}(h:ea σ fun e σ'=>match e with
  | .normal=>eb σ' K
  | .exit id=>K (.exit id) σ'
  | .ret=>K .ret σ'):M.lock fun _=>seqP ea eb σ K:=(M.lock_iff _).2 (.inl h)
theorem seq_join {M:Mach}{ea eb:St→(AExit→St→Prop)→Prop}{σ:St}{K:AExit→St→Prop}{T:Type}(S:T→St) (I:T→Prop)
  (ha:ea σ fun e σ'=>match e with
   | .normal=>∃σ'',Weak σ' σ''∧∃t,I t∧σ''=S t
   | .exit id=>K (.exit id) σ'
   | .ret=>K .ret σ') (hb:∀t,I t→eb (S t) K):M.lock fun _=>seqP ea eb σ K:=by
 refine (M.lock_iff _).2 (.inr ⟨fun σ=>∃t,I t∧σ=S t,ha,?_⟩)
 rintro σ2 ⟨t,hi,rfl⟩
 exact hb t hi
theorem join_nextG {T:Type}{I:T→Prop}{S:T→St}{σ2:St}(t':T) (gs:List Gh) (l:List (Nat×Nat)) (ks:List Nat) (is:List Id) (nx:Nat) (hI:I t') (hk:gh gs σ2 fun σ=>keepR ks is nx l σ (·=S t')):
  ∃σ'',Weak σ2 σ''∧∃t,I t∧σ''=S t:=by
 obtain⟨σ1,hw1,h1⟩:=gh_weak hk
 obtain⟨σ',hw,e⟩:=keepR_weak h1
 exact⟨σ',Weak.trans hw1 hw,t',hI,e⟩
theorem join_next {T:Type}{I:T→Prop}{S:T→St}{σ2:St}(t':T) (ks:List Nat) (is:List Id) (nx:Nat) (hI:I t') (hk:keep ks is nx σ2 (·=S t')):
  ∃σ'',Weak σ2 σ''∧∃t,I t∧σ''=S t:=by
 obtain⟨σ',hw,e⟩:=keep_weak hk
 exact⟨σ',hw,t',hI,e⟩
section
variable {M:Mach}{P:Program}{I:Inv}
theorem RoundK.of' {ti:Types}(hti:TIok P ti) (h1:TIone ti) (hm:P.follows .mixedOrders=true) {r:RF}{sl:List (Nat×AV)}{args:List V1}{pre:List AObj}{Q:Jump→List AObj→List AObj→Prop}{nt:Nat}{ps:List Tmp}{ca cb:Code}
  (hnt:r.nt=nt) (hpl:r.params.toList=ps) (ha:r.assign=ca) (hb:r.body=cb) (hlen:args.length=ps.length) (hps:allB (fun p=>Nat.blt p nt) ps=true)
  (hx:∀M:Mach,M.P=P→M.I=I→exec M ti nt (execDraw ti M nt) ca ⟨putPs ps args sl,extsOf pre 0,0⟩ fun e σ=>match e with
   | .normal=>exec M ti nt (execDraw ti M nt) cb σ fun e σ=>∃post new,Q (jumpOf e) post new∧FinR σ post new
   | _=>False):RoundK P I r sl args pre Q:=by
 subst hnt
 subst hpl
 subst ha
 subst hb
 exact RoundK.intro (fun M nt=>execDraw ti M nt) hti h1 (draw_P hti h1 hm) (by simpa using hlen) hps hx
theorem finQ_go {Q:AV→List AObj→List AObj→Prop}{ti:Types}{rs:List ResultVar}{σ:St}{res:AV}{post new:List AObj}(hQ:Q res post new)
  (h:withRes ti σ rs fun xs=>∃nm:List Id,nodupB nm=true∧mkRes xs=res.ren (renN nm σ.next)∧postOK (getH σ.heap) (renN nm σ.next) post 0∧newOK (getH σ.heap) (renN nm σ.next) new nm∧handOK post nm):
  ∃r p n,Q r p n∧Fin' ti rs σ r p n:=⟨_,_,_,hQ,[],h⟩
theorem yl_with {A:Prop}{ti:Types}{o:Oper}{c:Call}{f:Operand}{fresh:Nat}{σ:St}{K:St→Prop}{i:Id}{r:Unit→RF}{sl sl0:List (Nat×AV)}{xs targs:List V1}{pre post new:List AObj}{j:Jump}
  (hP:M.P=P) (hI:M.I=I) (m:List Id) (ho:o.op= .call c) (hc:c.callee= .value f) (hf:opd ti (getS σ.slots) 0 f= .v (.c (.yl i))) (hr:getH σ.heap i=some (.rnd r sl))
  (hR:RoundK P I (r ()) sl0 targs pre fun j' p n=>j'=j∧p=post∧n=new) (hxs:vals1 (opsArgs ti (getS σ.slots) c.args.toList c.argTypes.toList)=some xs)
  (he:xs=targs.map (V1.ren (renM (m++[i]) fresh))) (hsl:sl=renSl (renM (m++[i]) fresh) sl0) (hm:(m++[i]).Nodup) (hpre:preOK (getH σ.heap) (renM (m++[i]) fresh) m pre) (hkd:allKinds pre post) (hn:new.length≤31)
  (hk:K ⟨putS σ.slots o.dst (.v (.d (.bool j.isNone))),setW σ.heap (wrM (m++[i]) (renM (m++[i]) fresh) (post++[putRec j r sl0])++wrNew fresh (renM (m++[i]) fresh) 0 new),fresh⟩):
  M.lock fun _=>A∨callK M ti o fresh σ K:=by
 refine call_in ?_
 unfold callK
 rw[ho]
 simp only[]
 rw[hc]
 simp only[]
 refine⟨⟨σ.slots,σ.heap,fresh⟩,Weak.refl _,rfl,?_⟩
 simp only[hf]
 unfold withArgs
 rw[hxs]
 simp only[hr]
 refine⟨m,targs,pre,sl0,_,hP▸hI▸hR,he,hsl,(preOK_get hpre).1,hm,(preOK_get hpre).2,?_⟩
 rintro j' post' new' ⟨rfl,rfl,rfl⟩
 exact⟨⟨hkd,hn⟩,hk⟩
def callFV (M:Mach) (ti:Types) (o:Oper) (c:Call) (f:Operand) (fresh:Nat) (σ:St) (K:St→Prop):Prop:=
 match opd ti (getS σ.slots) 0 f with
 | .v (.c (.fn n cap))=>withArgs (opsArgs ti (getS σ.slots) c.args.toList c.argTypes.toList) fun xs=>callFn M o.dst fresh σ n (xs++cap.map fun i=>V1.c (.ptr i 0)) K
 | _=>False
theorem call_gs {A:Prop}{ti:Types}{o:Oper}{c:Call}{f:Operand}{fresh:Nat}{σ:St}{K:St→Prop}(gs:List Gh) (ho:o.op= .call c) (hc:c.callee= .value f)
  (hk:gh gs ⟨σ.slots,σ.heap,fresh⟩ fun σ'=>σ'.next=fresh∧M.lock fun _=>callFV M ti o c f fresh σ' K):M.lock fun _=>A∨callK M ti o fresh σ K:=by
 refine call_in ?_
 obtain⟨σ',hw,hn,hk⟩:=gh_weak hk
 have hk:=(M.lock_iff _).1 hk
 unfold callK
 rw[ho]
 simp only[]
 rw[hc]
 simp only[]
 refine⟨σ',hw,hn,?_⟩
 unfold callFV at hk
 split at hk
 ·rename_i n cap h
  rw[h]
  exact hk
 ·exact hk.elim
theorem callfv_with {ti:Types}{o:Oper}{c:Call}{f:Operand}{fresh:Nat}{σ:St}{K:St→Prop}{n:FuncId}{cap:List Id}{xs targs:List V1}{pre post new:List AObj}{res:AV}(hP:M.P=P) (hI:M.I=I) (m:List Id)
  (hf:opd ti (getS σ.slots) 0 f= .v (.c (.fn n cap))) (hxs:vals1 (opsArgs ti (getS σ.slots) c.args.toList c.argTypes.toList)=some xs) (ht:Trip P I n targs pre res post new)
  (he:(xs++cap.map fun i=>V1.c (.ptr i 0))=targs.map (V1.ren (renM m fresh))) (hm:m.Nodup) (hpre:preOK (getH σ.heap) (renM m fresh) m pre) (hkd:allKinds pre post) (hn:new.length≤31)
  (hk:K ⟨putS σ.slots o.dst (res.ren (renM m fresh)),setW σ.heap (wrM m (renM m fresh) post++wrNew fresh (renM m fresh) 0 new),σ.next⟩):M.lock fun _=>callFV M ti o c f fresh σ K:=by
 refine (M.lock_iff _).2 ?_
 unfold callFV
 rw[hf]
 simp only[]
 unfold withArgs
 rw[hxs]
 refine⟨m,targs,pre,_,hP▸hI▸ht,he,(preOK_get hpre).1,hm,(preOK_get hpre).2,?_⟩
 rintro res' post' new' ⟨rfl,rfl,rfl⟩
 exact⟨⟨hkd,hn⟩,hk⟩
theorem op_pl {ti:Types}{o:Oper}{fresh:Nat}{σ:St}{K:St→Prop}(hk:plOp M ti o fresh σ K):M.lock fun _=>plOp M ti o fresh σ K∨ghOp M ti o fresh σ K:=(M.lock_iff _).2 (.inl hk)
theorem op_must {ti:Types}{o:Oper}{fresh:Nat}{σ:St}{K:St→Prop}(gs:List Gh) (hk:gh gs ⟨σ.slots,σ.heap,fresh⟩ fun σ'=>σ'.next=fresh∧plOp M ti o fresh σ' K):M.lock fun _=>ghOp M ti o fresh σ K:=by
 obtain⟨σ',hw,hn,hk⟩:=gh_weak hk
 exact (M.lock_iff _).2 ⟨σ',hw,hn,hk⟩
theorem op_gs {ti:Types}{o:Oper}{fresh:Nat}{σ:St}{K:St→Prop}(gs:List Gh) (hk:gh gs ⟨σ.slots,σ.heap,fresh⟩ fun σ'=>σ'.next=fresh∧plOp M ti o fresh σ' K):M.lock fun _=>plOp M ti o fresh σ K∨ghOp M ti o fresh σ K:=
 (M.lock_iff _).2 (.inr ((M.lock_iff _).1 (op_must gs hk)))
theorem range_with {ti:Types}{nt:Nat}{g:Operand}{ps:Array Tmp}{assign body:Code}{σ:St}{K:AExit→St→Prop}{n:FuncId}{cap:List Id}{targs:List V1}{pre post new:List AObj}{res:AV}
  (hP:M.P=P) (hI:M.I=I) (m:List Id) (sl:List (Nat×AV)) (hg:opd ti (getS σ.slots) 0 g= .v (.c (.fn n cap))) (hsl:slOK (getS σ.slots) sl)
  (ht:Trip P I n targs pre res post new) (he:(V1.c (.yl (.loc σ.next))::cap.map fun i=>V1.c (.ptr i 0))=targs.map (V1.ren (renM m (σ.next+32)))) (hm:m.Nodup)
  (hpre:preOK (getH (setH σ.heap (.loc σ.next) (.rnd (fun _=>⟨ps,assign,body,nt⟩) sl))) (renM m (σ.next+32)) m pre) (hkd:allKinds pre post) (hn:new.length≤31)
  (hk:match getH (setW (setH σ.heap (.loc σ.next) (.rnd (fun _=>⟨ps,assign,body,nt⟩) sl)) (wrM m (renM m (σ.next+32)) post++wrNew (σ.next+32) (renM m (σ.next+32)) 0 new)) (.loc σ.next)with
   | some (.rnd _ _)=>K .normal ⟨σ.slots,setH (setW (setH σ.heap (.loc σ.next) (.rnd (fun _=>⟨ps,assign,body,nt⟩) sl)) (wrM m (renM m (σ.next+32)) post++wrNew (σ.next+32) (renM m (σ.next+32)) 0 new)) (.loc σ.next) .gone,σ.next+64⟩
   | some (.rndX j)=>(match j with
    | none=>K .ret ⟨σ.slots,setH (setW (setH σ.heap (.loc σ.next) (.rnd (fun _=>⟨ps,assign,body,nt⟩) sl)) (wrM m (renM m (σ.next+32)) post++wrNew (σ.next+32) (renM m (σ.next+32)) 0 new)) (.loc σ.next) .gone,σ.next+64⟩
    | some id=>K (.exit id) ⟨σ.slots,setH (setW (setH σ.heap (.loc σ.next) (.rnd (fun _=>⟨ps,assign,body,nt⟩) sl)) (wrM m (renM m (σ.next+32)) post++wrNew (σ.next+32) (renM m (σ.next+32)) 0 new)) (.loc σ.next) .gone,σ.next+64⟩)
   | _=>False):
  M.lock fun _=>rangeP M ti nt g ps assign body σ K:=by
 refine (M.lock_iff _).2 ⟨σ,Weak.refl _,?_⟩
 rw[hg]
 refine⟨sl,slOK_get hsl,m,targs,pre,_,hP▸hI▸ht,he,(preOK_get hpre).1,hm,(preOK_get hpre).2,?_⟩
 rintro res' post' new' ⟨rfl,rfl,rfl⟩
 exact⟨⟨hkd,hn⟩,hk⟩
end
end Go.AM
namespace Go.AM
open Go
def slB (d:Nat) (b:Bool) (l:List (Nat×AV)):List Nat→List (Nat×AV)
 | []=>[]
 | k::r=>(match Nat.beq k d with
  | true=>(k,.v (.d (.bool b)))
  | false=>(k,getS l k))::slB d b l r
def hpB (h:List (Id×AObj)):List Id→List (Id×AObj)
 | []=>[]
 | i::r=>(match getH h i with
  | some o=>(i,o)::hpB h r
  | none=>hpB h r)
def stB (d:Nat) (ks:List Nat) (is:List Id) (nx:Nat) (σ:St) (b:Bool):St:=⟨slB d b σ.slots ks,hpB σ.heap is,nx⟩
theorem seq_joinB {M:Mach}{ea eb:St→(AExit→St→Prop)→Prop}{σ:St}{K:AExit→St→Prop}(d:Nat) (ks:List Nat) (is:List Id) (nx:Nat) (I:Nat→Bool→Prop)
  (ha:ea σ fun e σ'=>match e with
   | .normal=>∃σ'',Weak σ' σ''∧∃t:Nat×Bool,I t.1 t.2∧σ''=stB d ks is nx σ t.2
   | .exit id=>K (.exit id) σ'
   | .ret=>K .ret σ') (hb:∀t:Nat×Bool,I t.1 t.2→eb (stB d ks is nx σ t.2) K):M.lock fun _=>seqP ea eb σ K:=
 seq_join (fun t:Nat×Bool=>stB d ks is nx σ t.2) (fun t=>I t.1 t.2) ha hb
end Go.AM
namespace Go.AM
open Go Go.RowKit
section
variable {γ:Type}
def findPF (z:Int) (rows:List PRow) (k1:Nat→List D→List D→Option γ) (k0:Option γ):Option γ:=
 match findP z 0 rows with
 | some (u,_,c,l)=>k1 u c l
 | none=>k0
theorem findPF_inv {z:Int}{rows:List PRow}{k1:Nat→List D→List D→Option γ}{k0:Option γ}{r:γ}(h:findPF z rows k1 k0=some r):
  (∃u key c l,findP z 0 rows=some (u,key,c,l)∧k1 u c l=some r)∨(findP z 0 rows=none∧k0=some r):=by
 unfold findPF at h
 split at h
 ·rename_i u key c l hy
  exact .inl ⟨u,key,c,l,hy,h⟩
 ·rename_i hy
  exact .inr ⟨hy,h⟩
def putPF (z:Int) (c l:List D) (rows:List PRow) (k:List PRow→Option γ):Option γ:=
 match findP z 0 rows with
 | some _=>none
 | none=>k (rows++[(z,c,l)])
theorem putPF_inv {z:Int}{c l:List D}{rows:List PRow}{k:List PRow→Option γ}{r:γ}(h:putPF z c l rows k=some r):∃out,findP z 0 rows=none∧rows++[(z,c,l)]=out∧k out=some r:=by
 unfold putPF at h
 split at h
 ·cases h
 ·rename_i hy
  exact⟨_,hy,rfl,h⟩
def delPF (z:Int) (rows:List PRow) (k:List PRow→Option γ):Option γ:=k (eraseP z rows)
theorem delPF_inv {z:Int}{rows:List PRow}{k:List PRow→Option γ}{r:γ}(h:delPF z rows k=some r):∃out,eraseP z rows=out∧k out=some r:=⟨_,rfl,h⟩
def setPF (rows:List PRow) (u:Nat) (c l:List D) (k:List PRow→Option γ):Option γ:=k (rows.modify u fun r=>(r.1,c,l))
theorem setPF_inv {rows:List PRow}{u:Nat}{c l:List D}{k:List PRow→Option γ}{r:γ}(h:setPF rows u c l k=some r):∃out,(rows.modify u fun r=>(r.1,c,l))=out∧k out=some r:=⟨_,rfl,h⟩
def setNF (L:List D) (i:Nat) (x:D) (k:List D→Option γ):Option γ:=if i<L.length then k (L.set i x)else none
theorem setNF_inv {L:List D}{i:Nat}{x:D}{k:List D→Option γ}{r:γ}(h:setNF L i x k=some r):∃out,i<L.length∧L.set i x=out∧k out=some r:=by
 unfold setNF at h
 split at h
 ·rename_i hy
  exact⟨_,hy,rfl,h⟩
 ·cases h
end
end Go.AM
namespace Go.AM
open Go Go.RowKit
def frzC (new:List AObj):CV→CV
 | .ow i=>(match i with
  | .loc k=>(match new[k]? with
   | some (.tree kd ag sz rows foc)=>(match foc with
    | none=>(match conD kd ag sz rows with
     | some x=>.d x
     | none=>.ow i)
    | some _=>.ow i)
   | _=>.ow i)
  | .ext _=>.ow i)
 | c=>c
theorem Trip.frz {P:Program}{I:Inv}{f:FuncId}{args:List V1}{pre post new new':List AObj}{cs:List CV}{res':V1}(ht:Trip P I f args pre (.v (.agg cs)) post new)
  (he:V1.ofCells true (cs.map (frzC new))=res') (hn:(new.map fun _=>AObj.gone)=new'):Trip P I f args pre (.v res') post new':=by
 subst he
 subst hn
 refine Trip.mk' ht.1 fun w X g vals k1 k2 k3 k4 k5 k6=>(ht.calls k1 k2 k3 k4 k5 k6).mono ?_
 rintro e w' ⟨v,g',rfl,CP⟩
 refine⟨v,g',rfl,?_⟩
 let h0:Heap:=heapOf2 post new
 let h1:Heap:=heapOf2 post (new.map fun _=>AObj.gone)
 have hl:∀k o,h1 (.loc k)=some o→o= .gone:=by
  intro k o ho
  have ho:(new.map fun _=>AObj.gone)[k]?=some o:=ho
  rw[List.getElem?_map,Option.map_eq_some_iff]at ho
  obtain⟨_,_,rfl⟩:=ho
  rfl
 have zs:∀i ob b o,h1 i=some ob→zone1 (g' i) ob b o→h0 i=some ob∧∀k,i≠ .loc k:=by
  intro i ob b o hi hz
  cases i with
  | ext j=>exact⟨hi,fun k e=>by cases e⟩
  | loc k=>rw[hl k ob hi]at hz;exact hz.elim
 have zz:∀b o,zor (zone g' h1) X b o→zor (zone g' h0) X b o:=by
  rintro b o (⟨i,ob,hi,hz⟩ | hx)
  ·exact .inl ⟨i,ob,(zs i ob b o hi hz).1,hz⟩
  ·exact .inr hx
 have E:Evo w' (zor (zone g' h0) X) g' h0 w' (zor (zone g' h1) X) g' h1:=by
  refine⟨fun b o u hu hn=>⟨hu,fun hy=>hn (zz b o hy)⟩,fun _ _ _=>rfl,fun _ _ _=>rfl,fun _ hi=>hi,fun i n sz e _ hk=>?_,fun _ hi=>hi,fun i _ hlv=>⟨?_,rfl⟩⟩
  ·cases i with
   | ext j=>exact⟨n,Nat.le_refl _,hk,fun _=>rfl⟩
   | loc k=>cases hl k _ hk
  ·cases i with
   | ext j=>exact hlv
   | loc k=>
    cases hc:h1 (.loc k)with
    | none=>rw[hc]at hlv;cases hlv
    | some o=>rw[hc,hl k o hc]at hlv;cases hlv
 have RH:RelH w' X g' h1:=by
  refine RelH.upd (h:=h0) (g:=g') CP.heap (fun i=>∃k,i= .loc k) (fun b o hx=>Nat.lt_of_lt_of_le (k1 b o hx) CP.frame.size) E (fun i hi=>?_) (fun _ _ _ _ _ _=>rfl) (fun i o hi ho=>?_) (fun i o b hi ho hb=>?_) (fun i j oi oj b hi hj ho ho' hb hb'=>?_)
  ·cases i with
   | ext j=>exact⟨rfl,rfl⟩
   | loc k=>exact absurd ⟨k,rfl⟩ hi
  ·obtain⟨k,rfl⟩:=hi
   rw[hl k o ho]
   trivial
  ·obtain⟨k,rfl⟩:=hi
   rw[hl k o ho]at hb
   exact hb.elim
  ·obtain⟨k,rfl⟩:=hi
   rw[hl k oi ho]at hb
   exact hb.elim
 refine⟨RH,?_,CP.frame,CP.ext,fun i ob b o hi hz=>CP.within i ob b o (zs i ob b o hi hz).1 hz,fun k hk=>CP.none k (by simpa using hk)⟩
 obtain⟨vs,rfl,hs,hr⟩:=(show RelV1 w' (zor (zone g' h0) X) g' h0 (.agg cs) v from CP.res)
 refine (RelV1.ofCells (by simpa using hs) (fun j c u hc hu=>?_)).1 rfl
 rw[List.getElem?_map,Option.map_eq_some_iff]at hc
 obtain⟨c0,hc0,rfl⟩:=hc
 have q:=hr j c0 u hc0 hu
 have keep:=E.relC q
 unfold frzC
 split
 ·rename_i i
  split
  ·rename_i k
   split
   ·rename_i kd ag sz rows foc hk
    split
    ·split
     ·rename_i x hx
      obtain⟨_,q2,q3⟩:=q
      have ho:h0 (.loc k)=some (.tree kd ag sz rows none):=hk
      have hu:=q3 (by rw[ho];rfl)
      obtain⟨_,ro⟩:=(tree_iff hx).1 (CP.heap.objs (.loc k) _ ho)
      rw[hu]
      refine⟨ro.toD fun b o hb=>?_,ro.isAgg⟩
      rintro (⟨i,ob,hi,hz⟩ | hX)
      ·obtain⟨g1,g2⟩:=zs i ob b o hi hz
       exact g2 k (CP.heap.sep i (.loc k) ob _ b g1 ho hz.obk hb)
      ·exact CP.heap.apart (.loc k) _ b o ho hb hX
     ·exact keep
    ·exact keep
   ·exact keep
  ·exact keep
 ·exact keep
end Go.AM
namespace Go.Proofs.Ytiiojajgajnhpaa
open Go Go.AM
theorem fol:Try.prog.follows .mixedOrders=true:=by kernel_rfl
def inv:Inv:=Inv.none
end Go.Proofs.Ytiiojajgajnhpaa
set_option maxRecDepth 100000
set_option maxHeartbeats 40000000
set_option linter.unusedVariables false
noncomputable section
namespace Go.Proofs.Ytiiojajgajnhpaa
open Go Go.AM
def ds_t61 {γ:Type}(x:D) (k:Int→Int→Int→Int→Int→ByteArray→List D→Int→List D→Option γ):Option γ:=match x with | .agg [.int .i64 a0,.int .i64 a1,.int .i64 a2,.int .u8 a3,.int .i64 a4,.str a5,.list true 6 a6,.int .i64 a7,.list false 1 a8]=>k a0 a1 a2 a3 a4 a5 a6 a7 a8 | _=>none
theorem ds_t61_inv {γ:Type}{x:D}{k:Int→Int→Int→Int→Int→ByteArray→List D→Int→List D→Option γ}{r:γ}(h:ds_t61 x k=some r):∃a0 a1 a2 a3 a4 a5 a6 a7 a8,x= .agg [.int .i64 a0,.int .i64 a1,.int .i64 a2,.int .u8 a3,.int .i64 a4,.str a5,.list true 6 a6,.int .i64 a7,.list false 1 a8]∧k a0 a1 a2 a3 a4 a5 a6 a7 a8=some r:=by
 unfold ds_t61 at h
 split at h
 ·exact⟨_,_,_,_,_,_,_,_,_,rfl,h⟩
 ·cases h
def ds_t49 {γ:Type}(x:D) (k:Int→Int→ByteArray→List D→Int→List D→Option γ):Option γ:=match x with | .agg [.int .u8 a0,.int .i64 a1,.str a2,.list true 6 a3,.int .i64 a4,.list false 1 a5]=>k a0 a1 a2 a3 a4 a5 | _=>none
theorem ds_t49_inv {γ:Type}{x:D}{k:Int→Int→ByteArray→List D→Int→List D→Option γ}{r:γ}(h:ds_t49 x k=some r):∃a0 a1 a2 a3 a4 a5,x= .agg [.int .u8 a0,.int .i64 a1,.str a2,.list true 6 a3,.int .i64 a4,.list false 1 a5]∧k a0 a1 a2 a3 a4 a5=some r:=by
 unfold ds_t49 at h
 split at h
 ·exact⟨_,_,_,_,_,_,rfl,h⟩
 ·cases h
def dl_w0 {γ:Type}(x:List D) (k:Int→Int→Int→Option γ):Option γ:=match x with | [.int .i64 a0,.int .i64 a1,.int .i64 a2]=>k a0 a1 a2 | _=>none
theorem dl_w0_inv {γ:Type}{x:List D}{k:Int→Int→Int→Option γ}{r:γ}(h:dl_w0 x k=some r):∃a0 a1 a2,x=[.int .i64 a0,.int .i64 a1,.int .i64 a2]∧k a0 a1 a2=some r:=by
 unfold dl_w0 at h
 split at h
 ·exact⟨_,_,_,rfl,h⟩
 ·cases h
def ds_i64 {γ:Type}(x:D) (k:Int→Option γ):Option γ:=match x with | .int .i64 a0=>k a0 | _=>none
theorem ds_i64_inv {γ:Type}{x:D}{k:Int→Option γ}{r:γ}(h:ds_i64 x k=some r):∃a0,x= .int .i64 a0∧k a0=some r:=by
 unfold ds_i64 at h
 split at h
 ·exact⟨_,rfl,h⟩
 ·cases h
def rf42_0:Unit→RF:=fun _=>⟨cP (cL (cR (cL (cR (cR (cR (cR (bodyOf Try.f42)))))))),cL (cL (cR (cL (cR (cR (cR (cR (bodyOf Try.f42)))))))),cR (cL (cR (cL (cR (cR (cR (cR (bodyOf Try.f42)))))))),28⟩
def ds_t171 {γ:Type}(x:D) (k:Int→Int→List D→Option γ):Option γ:=match x with | .agg [.int .i64 a0,.int .i64 a1,.list true 6 a2]=>k a0 a1 a2 | _=>none
theorem ds_t171_inv {γ:Type}{x:D}{k:Int→Int→List D→Option γ}{r:γ}(h:ds_t171 x k=some r):∃a0 a1 a2,x= .agg [.int .i64 a0,.int .i64 a1,.list true 6 a2]∧k a0 a1 a2=some r:=by
 unfold ds_t171 at h
 split at h
 ·exact⟨_,_,_,rfl,h⟩
 ·cases h
mutual
def L92_1:Nat→(List D)→Int→Int→Option (Int)
 | 0,_,_,_=>none
 | n+1,l1,z3,z4=>
  lenF l1 fun z5=>(if z4<z5 then (if (0:Int)≤z3 then L92_2 n l1 z3 z4 true else L92_2 n l1 z3 z4 false)else L92_2 n l1 z3 z4 false)
def L92_2:Nat→(List D)→Int→Int→Bool→Option (Int)
 | 0,_,_,_,_=>none
 | n+1,l1,z3,z4,b6=>
  (if b6=true then getF l1 z4 fun x7=>ds_t49 x7 fun z8 z9 s10 l11 z12 l13=>letF (IntKind.wrap .i64 (z3 - 10)) fun z14=>(if z14<(0:Int)then L92_3 n l1 z4 s10 l11 l13 z14 true else szF s10 fun z15=>(if z14<z15 then L92_3 n l1 z4 s10 l11 l13 z14 true else lenF l13 fun z16=>szF s10 fun z17=>letF (IntKind.wrap .i64 (z14 - z17)) fun z18=>(if z18<z16 then L92_3 n l1 z4 s10 l11 l13 z14 true else L92_3 n l1 z4 s10 l11 l13 z14 false)))else some z3)
def L92_3:Nat→(List D)→Int→ByteArray→(List D)→(List D)→Int→Bool→Option (Int)
 | 0,_,_,_,_,_,_,_=>none
 | n+1,l1,z4,s10,l11,l13,z14,b19=>
  (if b19=true then some (-1:Int)else szF s10 fun z20=>letF (IntKind.wrap .i64 (z14 - z20)) fun z21=>lenF l13 fun z22=>letF (IntKind.wrap .i64 (z21 - z22)) fun z23=>bO1 (F92 n l11 z23) fun z24=>letF (IntKind.wrap .i64 (z4+1)) fun z25=>L92_1 n l1 z24 z25)
def F92:Nat→(List D)→Int→Option (Int)
 | 0,_,_=>none
 | n+1,l1,z2=>
  L92_1 n l1 z2 (0:Int)
end
theorem T92 (n:Nat):∀⦃l1:List D⦄ ⦃z2:Int⦄ ⦃r1:Int⦄,F92 n l1 z2=some r1→
    Trip Try.prog inv 92 [.d (.list true 6 l1),.d (.int .i64 z2)] [] (.v (.d (.int .i64 r1))) [] []:=by
 induction n using Nat.strongRecOn with | _ n ih=>
 obtain _ | n:=n
 ·intro l1 z2 r1 h
  cases (show (none:Option _)=some _ from h)
 intro l1 z2 r1 h
 rw[F92]at h
 refine Trip.of tab_ok tab_one fol Try.func92 rfl (by kernel_rfl) rfl rfl rfl (fun M hM hI=>?_)
 try cbv
 refine seq_go ?_
 try cbv
 refine seq_go ?_
 try cbv
 refine seq_go ?_
 try cbv
 refine loop_inv (T:=Nat×Int×Int) [0,1,4,5] [] 64 (fun t=>⟨[(0,.v (.d (.list true 6 l1))),(1,.v (.d (.int .i64 t.2.1))),(4,.v (.d (.int .i64 0))),(5,.v (.d (.int .i64 t.2.2)))],[],64⟩)
   (fun t=>t.1≤n∧L92_1 t.1 l1 t.2.1 t.2.2=some r1) (fun t=>t.1) (n,(z2,(0:Int))) ⟨Nat.le_refl _,h⟩ (by cbv) ?_
 clear h
 rintro⟨m1,z3,z4⟩ ⟨hm1,h⟩
 replace hm1:m1≤n:=hm1
 obtain _ | m1:=m1
 ·replace h:L92_1 0 l1 z3 z4=some r1:=h
  rw[L92_1]at h
  cases h
 replace h:L92_1 (m1+1) l1 z3 z4=some r1:=h
 rw[L92_1]at h
 try cbv
 refine seq_go ?_
 try cbv
 refine seq_join (T:=Nat×Bool) (fun t=>⟨[(0,.v (.d (.list true 6 l1))),(1,.v (.d (.int .i64 z3))),(4,.v (.d (.int .i64 0))),(5,.v (.d (.int .i64 z4))),(14,.v (.d (.bool t.2)))],[],320⟩) (fun t=>t.1≤m1∧L92_2 t.1 l1 z3 z4 t.2=some r1) ?_ ?_
 ·try cbv
  replace h:=lenF_inv M h
  obtain⟨z5,hz,h⟩:=h
  refine⟨z5,hz,?_⟩
  clear hz
  try cbv
  refine splitL (fun e=>?_) (fun e=>?_)
  ·replace h:=ite_t e h
   clear e
   try cbv
   refine splitLe (fun e=>?_) (fun e=>?_)
   ·replace h:=ite_t e h
    clear e
    try cbv
    exact join_next (m1,true) [0,1,4,5,14] [] 320 ⟨by omega,h⟩ (by cbv)
   replace h:=ite_f (Int.not_le.2 e) h
   clear e
   try cbv
   exact join_next (m1,false) [0,1,4,5,14] [] 320 ⟨by omega,h⟩ (by cbv)
  replace h:=ite_f (Int.not_lt.2 e) h
  clear e
  try cbv
  exact join_next (m1,false) [0,1,4,5,14] [] 320 ⟨by omega,h⟩ (by cbv)
 clear h
 rintro⟨m2,b6⟩ ⟨hm2,h⟩
 replace hm2:m2≤m1:=hm2
 obtain _ | m2:=m2
 ·replace h:L92_2 0 l1 z3 z4 b6=some r1:=h
  rw[L92_2]at h
  cases h
 replace h:L92_2 (m2+1) l1 z3 z4 b6=some r1:=h
 rw[L92_2]at h
 try cbv
 cases b6
 ·replace h:=ite_f Bool.false_ne_true h
  try cbv
  refine seq_go ?_
  try cbv
  obtain rfl:=Option.some.inj h
  refine fin_go ?_
  try cbv
  exact⟨[],rfl,rfl,trivial,trivial,trivial⟩
 replace h:=ite_t rfl h
 try cbv
 refine seq_go ?_
 try cbv
 refine seq_go ?_
 try cbv
 replace h:=getF_inv h
 obtain⟨x7,hx7,h⟩:=h
 replace h:=ds_t49_inv h
 obtain⟨z8,z9,s10,l11,z12,l13,rfl,h⟩:=h
 refine⟨_,hx7.1,hx7.2,?_⟩
 try cbv
 refine seq_go ?_
 try cbv
 replace h:=letF_inv h
 obtain⟨z14,hz,h⟩:=h
 refine⟨z14,hz,?_⟩
 clear hz
 try cbv
 refine seq_go ?_
 try cbv
 refine seq_join (T:=Nat×Bool) (fun t=>⟨[(0,.v (.d (.list true 6 l1))),(1,.v (.d (.int .i64 z14))),(4,.v (.d (.int .i64 0))),(5,.v (.d (.int .i64 z4))),(6,.v (.c (.ptr (.loc 448) 0))),(42,.v (.d (.bool t.2)))],[(.loc 448,.cells [.d (.int .u8 z8),.d (.int .i64 z9),.d (.str s10),.d (.list true 6 l11),.d (.int .i64 z12),.d (.list false 1 l13)])],1248⟩) (fun t=>t.1≤m2∧L92_3 t.1 l1 z4 s10 l11 l13 z14 t.2=some r1) ?_ ?_
 ·try cbv
  refine splitL (fun e=>?_) (fun e=>?_)
  ·replace h:=ite_t e h
   clear e
   try cbv
   exact join_next (m2,true) [0,1,4,5,6,42] [.loc 448] 1248 ⟨by omega,h⟩ (by cbv)
  replace h:=ite_f (Int.not_lt.2 e) h
  clear e
  try cbv
  replace h:=szF_inv M h
  obtain⟨z15,hz,h⟩:=h
  refine⟨z15,hz,?_⟩
  clear hz
  try cbv
  refine splitL (fun e=>?_) (fun e=>?_)
  ·replace h:=ite_t e h
   clear e
   try cbv
   exact join_next (m2,true) [0,1,4,5,6,42] [.loc 448] 1248 ⟨by omega,h⟩ (by cbv)
  replace h:=ite_f (Int.not_lt.2 e) h
  clear e
  try cbv
  replace h:=lenF_inv M h
  obtain⟨z16,hz,h⟩:=h
  refine⟨z16,hz,?_⟩
  clear hz
  try cbv
  replace h:=szF_inv M h
  obtain⟨z17,hz,h⟩:=h
  refine⟨z17,hz,?_⟩
  clear hz
  try cbv
  replace h:=letF_inv h
  obtain⟨z18,hz,h⟩:=h
  refine⟨z18,hz,?_⟩
  clear hz
  try cbv
  refine splitL (fun e=>?_) (fun e=>?_)
  ·replace h:=ite_t e h
   clear e
   try cbv
   exact join_next (m2,true) [0,1,4,5,6,42] [.loc 448] 1248 ⟨by omega,h⟩ (by cbv)
  replace h:=ite_f (Int.not_lt.2 e) h
  clear e
  try cbv
  exact join_next (m2,false) [0,1,4,5,6,42] [.loc 448] 1248 ⟨by omega,h⟩ (by cbv)
 clear h
 rintro⟨m3,b19⟩ ⟨hm3,h⟩
 replace hm3:m3≤m2:=hm3
 obtain _ | m3:=m3
 ·replace h:L92_3 0 l1 z4 s10 l11 l13 z14 b19=some r1:=h
  rw[L92_3]at h
  cases h
 replace h:L92_3 (m3+1) l1 z4 s10 l11 l13 z14 b19=some r1:=h
 rw[L92_3]at h
 try cbv
 cases b19
 rotate_left
 ·replace h:=ite_t rfl h
  try cbv
  refine seq_go ?_
  try cbv
  obtain rfl:=Option.some.inj h
  refine fin_go ?_
  try cbv
  exact⟨[],rfl,rfl,trivial,trivial,trivial⟩
 replace h:=ite_f Bool.false_ne_true h
 try cbv
 replace h:=szF_inv M h
 obtain⟨z20,hz,h⟩:=h
 refine⟨z20,hz,?_⟩
 clear hz
 try cbv
 replace h:=letF_inv h
 obtain⟨z21,hz,h⟩:=h
 refine⟨z21,hz,?_⟩
 clear hz
 try cbv
 replace h:=lenF_inv M h
 obtain⟨z22,hz,h⟩:=h
 refine⟨z22,hz,?_⟩
 clear hz
 try cbv
 replace h:=letF_inv h
 obtain⟨z23,hz,h⟩:=h
 refine⟨z23,hz,?_⟩
 clear hz
 try cbv
 replace h:=bO1_inv h
 obtain⟨z24,hr,h⟩:=h
 refine call_go rfl rfl ?_
 try cbv
 refine call_pure hM hI ((ih _ (by omega)) hr) rfl ?_
 clear hr
 try cbv
 replace h:=letF_inv h
 obtain⟨z25,hz,h⟩:=h
 refine⟨z25,hz,?_⟩
 clear hz
 try cbv
 exact loop_next (m3,(z24,z25)) [0,1,4,5] [] 64 ⟨by omega,h⟩ (Nat.lt_succ_of_le (by omega)) (by cbv)
mutual
def L36_2:Nat→(List D)→Int→Int→Option (Bool)
 | 0,_,_,_=>none
 | n+1,l1,z4,z5=>
  lenF l1 fun z6=>(if z5<z6 then L36_3 n l1 z4 z5 true else L36_3 n l1 z4 z5 false)
def L36_3:Nat→(List D)→Int→Int→Bool→Option (Bool)
 | 0,_,_,_,_=>none
 | n+1,l1,z4,z5,b7=>
  (if b7=true then getF l1 z5 fun x8=>ds_t61 x8 fun z9 z10 z11 z12 z13 s14 l15 z16 l17=>bO1 (F92 n ([.agg [.int .u8 z12,.int .i64 z13,.str s14,.list true 6 l15,.int .i64 z16,.list false 1 l17]]) z4) fun z18=>letF (IntKind.wrap .i64 (z5+1)) fun z19=>L36_2 n l1 z18 z19 else (if z4<(0:Int)then some true else some false))
end
def L36_1:Nat→(List D)→Bool→Option (Bool)
 | 0,_,_=>none
 | n+1,l1,b3=>
  (if b3=true then some true else L36_2 n l1 (10000:Int) (0:Int))
def F36 (n:Nat) (l1:List D):Option (Bool):=
 lenF l1 fun z2=>(if (100:Int)<z2 then L36_1 n l1 true else L36_1 n l1 false)
theorem T36 (n:Nat):∀⦃l1:List D⦄ ⦃r1:Bool⦄,F36 n l1=some r1→
    Trip Try.prog inv 36 [.d (.list true 9 l1)] [] (.v (.d (.bool r1))) [] []:=by
 intro l1 r1 h
 unfold F36 at h
 refine Trip.of tab_ok tab_one fol Try.func36 rfl (by kernel_rfl) rfl rfl rfl (fun M hM hI=>?_)
 try cbv
 refine seq_go ?_
 try cbv
 refine seq_go ?_
 try cbv
 refine seq_join (T:=Nat×Bool) (fun t=>⟨[(0,.v (.d (.list true 9 l1))),(2,.v (.d (.bool false))),(7,.v (.d (.bool t.2)))],[],128⟩) (fun t=>t.1≤n∧L36_1 t.1 l1 t.2=some r1) ?_ ?_
 ·try cbv
  replace h:=lenF_inv M h
  obtain⟨z2,hz,h⟩:=h
  refine⟨z2,hz,?_⟩
  clear hz
  try cbv
  refine splitL (fun e=>?_) (fun e=>?_)
  ·replace h:=ite_t e h
   clear e
   try cbv
   exact join_next (n,true) [0,2,7] [] 128 ⟨by omega,h⟩ (by cbv)
  replace h:=ite_f (Int.not_lt.2 e) h
  clear e
  try cbv
  exact join_next (n,false) [0,2,7] [] 128 ⟨by omega,h⟩ (by cbv)
 clear h
 rintro⟨m1,b3⟩ ⟨hm1,h⟩
 replace hm1:m1≤n:=hm1
 obtain _ | m1:=m1
 ·replace h:L36_1 0 l1 b3=some r1:=h
  rw[L36_1]at h
  cases h
 replace h:L36_1 (m1+1) l1 b3=some r1:=h
 rw[L36_1]at h
 try cbv
 cases b3
 rotate_left
 ·replace h:=ite_t rfl h
  try cbv
  refine seq_go ?_
  try cbv
  obtain rfl:=Option.some.inj h
  refine fin_go ?_
  try cbv
  exact⟨[],rfl,rfl,trivial,trivial,trivial⟩
 replace h:=ite_f Bool.false_ne_true h
 try cbv
 refine seq_go ?_
 try cbv
 refine seq_go ?_
 try cbv
 refine seq_go ?_
 try cbv
 refine loop_inv (T:=Nat×Int×Int) [0,2,3,4] [] 192 (fun t=>⟨[(0,.v (.d (.list true 9 l1))),(2,.v (.d (.bool false))),(3,.v (.d (.int .i64 t.2.1))),(4,.v (.d (.int .i64 t.2.2)))],[],192⟩)
   (fun t=>t.1≤m1∧L36_2 t.1 l1 t.2.1 t.2.2=some r1) (fun t=>t.1) (m1,((10000:Int),(0:Int))) ⟨Nat.le_refl _,h⟩ (by cbv) ?_
 clear h
 rintro⟨m2,z4,z5⟩ ⟨hm2,h⟩
 replace hm2:m2≤m1:=hm2
 obtain _ | m2:=m2
 ·replace h:L36_2 0 l1 z4 z5=some r1:=h
  rw[L36_2]at h
  cases h
 replace h:L36_2 (m2+1) l1 z4 z5=some r1:=h
 rw[L36_2]at h
 try cbv
 refine seq_go ?_
 try cbv
 refine seq_join (T:=Nat×Bool) (fun t=>⟨[(0,.v (.d (.list true 9 l1))),(2,.v (.d (.bool false))),(3,.v (.d (.int .i64 z4))),(4,.v (.d (.int .i64 z5))),(11,.v (.d (.bool t.2)))],[],320⟩) (fun t=>t.1≤m2∧L36_3 t.1 l1 z4 z5 t.2=some r1) ?_ ?_
 ·try cbv
  replace h:=lenF_inv M h
  obtain⟨z6,hz,h⟩:=h
  refine⟨z6,hz,?_⟩
  clear hz
  try cbv
  refine splitL (fun e=>?_) (fun e=>?_)
  ·replace h:=ite_t e h
   clear e
   try cbv
   exact join_next (m2,true) [0,2,3,4,11] [] 320 ⟨by omega,h⟩ (by cbv)
  replace h:=ite_f (Int.not_lt.2 e) h
  clear e
  try cbv
  exact join_next (m2,false) [0,2,3,4,11] [] 320 ⟨by omega,h⟩ (by cbv)
 clear h
 rintro⟨m3,b7⟩ ⟨hm3,h⟩
 replace hm3:m3≤m2:=hm3
 obtain _ | m3:=m3
 ·replace h:L36_3 0 l1 z4 z5 b7=some r1:=h
  rw[L36_3]at h
  cases h
 replace h:L36_3 (m3+1) l1 z4 z5 b7=some r1:=h
 rw[L36_3]at h
 try cbv
 cases b7
 ·replace h:=ite_f Bool.false_ne_true h
  try cbv
  refine seq_go ?_
  try cbv
  refine splitL (fun e=>?_) (fun e=>?_)
  ·replace h:=ite_t e h
   clear e
   try cbv
   obtain rfl:=Option.some.inj h
   refine fin_go ?_
   try cbv
   exact⟨[],rfl,rfl,trivial,trivial,trivial⟩
  replace h:=ite_f (Int.not_lt.2 e) h
  clear e
  try cbv
  obtain rfl:=Option.some.inj h
  refine fin_go ?_
  try cbv
  exact⟨[],rfl,rfl,trivial,trivial,trivial⟩
 replace h:=ite_t rfl h
 try cbv
 refine seq_go ?_
 try cbv
 replace h:=getF_inv h
 obtain⟨x8,hx8,h⟩:=h
 replace h:=ds_t61_inv h
 obtain⟨z9,z10,z11,z12,z13,s14,l15,z16,l17,rfl,h⟩:=h
 refine⟨_,hx8.1,hx8.2,?_⟩
 try cbv
 refine⟨false,?_⟩
 try cbv
 refine⟨true,?_⟩
 try cbv
 replace h:=bO1_inv h
 obtain⟨z18,hr,h⟩:=h
 refine call_go rfl rfl ?_
 try cbv
 refine call_pure hM hI (T92 _ hr) rfl ?_
 clear hr
 try cbv
 replace h:=letF_inv h
 obtain⟨z19,hz,h⟩:=h
 refine⟨z19,hz,?_⟩
 clear hz
 try cbv
 exact loop_next (m3,(z18,z19)) [0,2,3,4] [] 192 ⟨by omega,h⟩ (Nat.lt_succ_of_le (by omega)) (by cbv)
mutual
def L98_2:Nat→(List D)→(List D)→Int→Option (Bool)
 | 0,_,_,_=>none
 | n+1,l1,l2,z6=>
  lenF l1 fun z7=>(if z6<z7 then L98_3 n l1 l2 z6 true else L98_3 n l1 l2 z6 false)
def L98_3:Nat→(List D)→(List D)→Int→Bool→Option (Bool)
 | 0,_,_,_,_=>none
 | n+1,l1,l2,z6,b8=>
  (if b8=true then getF l1 z6 fun x9=>ds_i64 x9 fun z10=>getF l2 z6 fun x11=>ds_i64 x11 fun z12=>(if z10=z12 then L98_4 n l1 l2 z6 false else L98_4 n l1 l2 z6 true)else some true)
def L98_4:Nat→(List D)→(List D)→Int→Bool→Option (Bool)
 | 0,_,_,_,_=>none
 | n+1,l1,l2,z6,b13=>
  (if b13=true then some false else letF (IntKind.wrap .i64 (z6+1)) fun z14=>L98_2 n l1 l2 z14)
end
def L98_1:Nat→(List D)→(List D)→Bool→Option (Bool)
 | 0,_,_,_=>none
 | n+1,l1,l2,b5=>
  (if b5=true then some false else L98_2 n l1 l2 (0:Int))
def F98 (n:Nat) (l1:List D) (l2:List D):Option (Bool):=
 lenF l1 fun z3=>lenF l2 fun z4=>(if z3=z4 then L98_1 n l1 l2 false else L98_1 n l1 l2 true)
theorem T98 (n:Nat):∀⦃l1:List D⦄ ⦃l2:List D⦄ ⦃r1:Bool⦄,F98 n l1 l2=some r1→
    Trip Try.prog inv 98 [.d (.list false 1 l1),.d (.list false 1 l2)] [] (.v (.d (.bool r1))) [] []:=by
 intro l1 l2 r1 h
 unfold F98 at h
 refine Trip.of tab_ok tab_one fol Try.func98 rfl (by kernel_rfl) rfl rfl rfl (fun M hM hI=>?_)
 try cbv
 refine seq_go ?_
 try cbv
 refine seq_go ?_
 try cbv
 refine seq_join (T:=Nat×Bool) (fun t=>⟨[(0,.v (.d (.list false 1 l1))),(1,.v (.d (.list false 1 l2))),(4,.v (.d (.bool false))),(10,.v (.d (.bool t.2)))],[],192⟩) (fun t=>t.1≤n∧L98_1 t.1 l1 l2 t.2=some r1) ?_ ?_
 ·try cbv
  replace h:=lenF_inv M h
  obtain⟨z3,hz,h⟩:=h
  refine⟨z3,hz,?_⟩
  clear hz
  try cbv
  replace h:=lenF_inv M h
  obtain⟨z4,hz,h⟩:=h
  refine⟨z4,hz,?_⟩
  clear hz
  try cbv
  refine splitI (fun e=>?_) (fun e=>?_)
  ·replace h:=ite_t e h
   clear e
   try cbv
   exact join_next (n,false) [0,1,4,10] [] 192 ⟨by omega,h⟩ (by cbv)
  replace h:=ite_f e h
  clear e
  try cbv
  exact join_next (n,true) [0,1,4,10] [] 192 ⟨by omega,h⟩ (by cbv)
 clear h
 rintro⟨m1,b5⟩ ⟨hm1,h⟩
 replace hm1:m1≤n:=hm1
 obtain _ | m1:=m1
 ·replace h:L98_1 0 l1 l2 b5=some r1:=h
  rw[L98_1]at h
  cases h
 replace h:L98_1 (m1+1) l1 l2 b5=some r1:=h
 rw[L98_1]at h
 try cbv
 cases b5
 rotate_left
 ·replace h:=ite_t rfl h
  try cbv
  refine seq_go ?_
  try cbv
  obtain rfl:=Option.some.inj h
  refine fin_go ?_
  try cbv
  exact⟨[],rfl,rfl,trivial,trivial,trivial⟩
 replace h:=ite_f Bool.false_ne_true h
 try cbv
 refine seq_go ?_
 try cbv
 refine seq_go ?_
 try cbv
 refine loop_inv (T:=Nat×Int) [0,1,4,5] [] 224 (fun t=>⟨[(0,.v (.d (.list false 1 l1))),(1,.v (.d (.list false 1 l2))),(4,.v (.d (.bool false))),(5,.v (.d (.int .i64 t.2)))],[],224⟩)
   (fun t=>t.1≤m1∧L98_2 t.1 l1 l2 t.2=some r1) (fun t=>t.1) (m1,(0:Int)) ⟨Nat.le_refl _,h⟩ (by cbv) ?_
 clear h
 rintro⟨m2,z6⟩ ⟨hm2,h⟩
 replace hm2:m2≤m1:=hm2
 obtain _ | m2:=m2
 ·replace h:L98_2 0 l1 l2 z6=some r1:=h
  rw[L98_2]at h
  cases h
 replace h:L98_2 (m2+1) l1 l2 z6=some r1:=h
 rw[L98_2]at h
 try cbv
 refine seq_go ?_
 try cbv
 refine seq_join (T:=Nat×Bool) (fun t=>⟨[(0,.v (.d (.list false 1 l1))),(1,.v (.d (.list false 1 l2))),(4,.v (.d (.bool false))),(5,.v (.d (.int .i64 z6))),(14,.v (.d (.bool t.2)))],[],352⟩) (fun t=>t.1≤m2∧L98_3 t.1 l1 l2 z6 t.2=some r1) ?_ ?_
 ·try cbv
  replace h:=lenF_inv M h
  obtain⟨z7,hz,h⟩:=h
  refine⟨z7,hz,?_⟩
  clear hz
  try cbv
  refine splitL (fun e=>?_) (fun e=>?_)
  ·replace h:=ite_t e h
   clear e
   try cbv
   exact join_next (m2,true) [0,1,4,5,14] [] 352 ⟨by omega,h⟩ (by cbv)
  replace h:=ite_f (Int.not_lt.2 e) h
  clear e
  try cbv
  exact join_next (m2,false) [0,1,4,5,14] [] 352 ⟨by omega,h⟩ (by cbv)
 clear h
 rintro⟨m3,b8⟩ ⟨hm3,h⟩
 replace hm3:m3≤m2:=hm3
 obtain _ | m3:=m3
 ·replace h:L98_3 0 l1 l2 z6 b8=some r1:=h
  rw[L98_3]at h
  cases h
 replace h:L98_3 (m3+1) l1 l2 z6 b8=some r1:=h
 rw[L98_3]at h
 try cbv
 cases b8
 ·replace h:=ite_f Bool.false_ne_true h
  try cbv
  refine seq_go ?_
  try cbv
  obtain rfl:=Option.some.inj h
  refine fin_go ?_
  try cbv
  exact⟨[],rfl,rfl,trivial,trivial,trivial⟩
 replace h:=ite_t rfl h
 try cbv
 refine seq_go ?_
 try cbv
 refine seq_join (T:=Nat×Bool) (fun t=>⟨[(0,.v (.d (.list false 1 l1))),(1,.v (.d (.list false 1 l2))),(4,.v (.d (.bool false))),(5,.v (.d (.int .i64 z6))),(25,.v (.d (.bool t.2)))],[],640⟩) (fun t=>t.1≤m3∧L98_4 t.1 l1 l2 z6 t.2=some r1) ?_ ?_
 ·try cbv
  replace h:=getF_inv h
  obtain⟨x9,hx9,h⟩:=h
  replace h:=ds_i64_inv h
  obtain⟨z10,rfl,h⟩:=h
  refine⟨_,hx9.1,hx9.2,?_⟩
  try cbv
  replace h:=getF_inv h
  obtain⟨x11,hx11,h⟩:=h
  replace h:=ds_i64_inv h
  obtain⟨z12,rfl,h⟩:=h
  refine⟨_,hx11.1,hx11.2,?_⟩
  try cbv
  refine splitI (fun e=>?_) (fun e=>?_)
  ·replace h:=ite_t e h
   clear e
   try cbv
   refine drawn ?_ ?_
   ·show _=true
    kernel_rfl
   try cbv
   exact join_next (m3,false) [0,1,4,5,25] [] 640 ⟨by omega,h⟩ (by cbv)
  replace h:=ite_f e h
  clear e
  try cbv
  refine drawn ?_ ?_
  ·show _=true
   kernel_rfl
  try cbv
  exact join_next (m3,true) [0,1,4,5,25] [] 640 ⟨by omega,h⟩ (by cbv)
 clear h
 rintro⟨m4,b13⟩ ⟨hm4,h⟩
 replace hm4:m4≤m3:=hm4
 obtain _ | m4:=m4
 ·replace h:L98_4 0 l1 l2 z6 b13=some r1:=h
  rw[L98_4]at h
  cases h
 replace h:L98_4 (m4+1) l1 l2 z6 b13=some r1:=h
 rw[L98_4]at h
 try cbv
 cases b13
 ·replace h:=ite_f Bool.false_ne_true h
  try cbv
  replace h:=letF_inv h
  obtain⟨z14,hz,h⟩:=h
  refine⟨z14,hz,?_⟩
  clear hz
  try cbv
  exact loop_next (m4,z14) [0,1,4,5] [] 224 ⟨by omega,h⟩ (Nat.lt_succ_of_le (by omega)) (by cbv)
 replace h:=ite_t rfl h
 try cbv
 refine seq_go ?_
 try cbv
 obtain rfl:=Option.some.inj h
 refine fin_go ?_
 try cbv
 exact⟨[],rfl,rfl,trivial,trivial,trivial⟩
mutual
def L48_1:Nat→(List D)→(List D)→Bool→Option (Bool)
 | 0,_,_,_=>none
 | n+1,l1,l2,b5=>
  (if b5=true then some false else L48_2 n l1 l2 (0:Int))
def L48_2:Nat→(List D)→(List D)→Int→Option (Bool)
 | 0,_,_,_=>none
 | n+1,l1,l2,z6=>
  lenF l1 fun z7=>(if z6<z7 then L48_3 n l1 l2 z6 true else L48_3 n l1 l2 z6 false)
def L48_3:Nat→(List D)→(List D)→Int→Bool→Option (Bool)
 | 0,_,_,_,_=>none
 | n+1,l1,l2,z6,b8=>
  (if b8=true then getF l1 z6 fun x9=>ds_t49 x9 fun z10 z11 s12 l13 z14 l15=>getF l2 z6 fun x16=>ds_t49 x16 fun z17 z18 s19 l20 z21 l22=>bO1 (F34 n z10 z11 s12 l13 z14 l15 z17 z18 s19 l20 z21 l22) fun b23=>letB (!b23) fun b24=>(if b24=true then some false else letF (IntKind.wrap .i64 (z6+1)) fun z25=>L48_2 n l1 l2 z25)else some true)
def F48:Nat→(List D)→(List D)→Option (Bool)
 | 0,_,_=>none
 | n+1,l1,l2=>
  lenF l1 fun z3=>lenF l2 fun z4=>(if z3=z4 then L48_1 n l1 l2 false else L48_1 n l1 l2 true)
def F34:Nat→Int→Int→ByteArray→(List D)→Int→(List D)→Int→Int→ByteArray→(List D)→Int→(List D)→Option (Bool)
 | 0,_,_,_,_,_,_,_,_,_,_,_,_=>none
 | n+1,z1,z2,s3,l4,z5,l6,z7,z8,s9,l10,z11,l12=>
  (if z1=z7 then (if z2=z8 then (if s3=s9 then (if z5=z11 then bO1 (F98 n l6 l12) fun b13=>(if b13=true then bO1 (F48 n l4 l10) fun b14=>some b14 else some false)else some false)else some false)else some false)else some false)
end
theorem G48 (n:Nat):(∀⦃l1:List D⦄ ⦃l2:List D⦄ ⦃r1:Bool⦄,F48 n l1 l2=some r1→
    Trip Try.prog inv 48 [.d (.list true 6 l1),.d (.list true 6 l2)] [] (.v (.d (.bool r1))) [] [])∧
    (∀⦃z1:Int⦄ ⦃z2:Int⦄ ⦃s3:ByteArray⦄ ⦃l4:List D⦄ ⦃z5:Int⦄ ⦃l6:List D⦄ ⦃z7:Int⦄ ⦃z8:Int⦄ ⦃s9:ByteArray⦄ ⦃l10:List D⦄ ⦃z11:Int⦄ ⦃l12:List D⦄ ⦃r1:Bool⦄,F34 n z1 z2 s3 l4 z5 l6 z7 z8 s9 l10 z11 l12=some r1→
    Trip Try.prog inv 34 [.d (.agg [.int .u8 z1,.int .i64 z2,.str s3,.list true 6 l4,.int .i64 z5,.list false 1 l6]),.d (.agg [.int .u8 z7,.int .i64 z8,.str s9,.list true 6 l10,.int .i64 z11,.list false 1 l12])] [] (.v (.d (.bool r1))) [] []):=by
 induction n using Nat.strongRecOn with | _ n ih=>
 obtain _ | n:=n
 ·refine⟨?_,?_⟩
  ·intro l1 l2 r1 h
   cases (show (none:Option _)=some _ from h)
  intro z1 z2 s3 l4 z5 l6 z7 z8 s9 l10 z11 l12 r1 h
  cases (show (none:Option _)=some _ from h)
 refine⟨?_,?_⟩
 rotate_left
 ·intro z1 z2 s3 l4 z5 l6 z7 z8 s9 l10 z11 l12 r1 h
  rw[F34]at h
  refine Trip.of tab_ok tab_one fol Try.func34 rfl (by kernel_rfl) rfl rfl rfl (fun M hM hI=>?_)
  try cbv
  refine seq_go ?_
  try cbv
  refine seq_go ?_
  try cbv
  refine splitI (fun e=>?_) (fun e=>?_)
  rotate_left
  ·replace h:=ite_f e h
   clear e
   try cbv
   obtain rfl:=Option.some.inj h
   refine fin_go ?_
   try cbv
   exact⟨[],rfl,rfl,trivial,trivial,trivial⟩
  replace h:=ite_t e h
  clear e
  try cbv
  refine splitI (fun e=>?_) (fun e=>?_)
  rotate_left
  ·replace h:=ite_f e h
   clear e
   try cbv
   obtain rfl:=Option.some.inj h
   refine fin_go ?_
   try cbv
   exact⟨[],rfl,rfl,trivial,trivial,trivial⟩
  replace h:=ite_t e h
  clear e
  try cbv
  refine splitS (fun e=>?_) (fun e=>?_)
  rotate_left
  ·replace h:=ite_f (bytes_ne.1 e) h
   clear e
   try cbv
   obtain rfl:=Option.some.inj h
   refine fin_go ?_
   try cbv
   exact⟨[],rfl,rfl,trivial,trivial,trivial⟩
  replace h:=ite_t (bytes_eq.1 e) h
  clear e
  try cbv
  refine splitI (fun e=>?_) (fun e=>?_)
  rotate_left
  ·replace h:=ite_f e h
   clear e
   try cbv
   obtain rfl:=Option.some.inj h
   refine fin_go ?_
   try cbv
   exact⟨[],rfl,rfl,trivial,trivial,trivial⟩
  replace h:=ite_t e h
  clear e
  try cbv
  replace h:=bO1_inv h
  obtain⟨b13,hr,h⟩:=h
  refine call_go rfl rfl ?_
  try cbv
  refine call_pure hM hI (T98 _ hr) rfl ?_
  clear hr
  try cbv
  cases b13
  ·replace h:=ite_f Bool.false_ne_true h
   try cbv
   obtain rfl:=Option.some.inj h
   refine fin_go ?_
   try cbv
   exact⟨[],rfl,rfl,trivial,trivial,trivial⟩
  replace h:=ite_t rfl h
  try cbv
  replace h:=bO1_inv h
  obtain⟨b14,hr,h⟩:=h
  refine call_go rfl rfl ?_
  try cbv
  refine call_pure hM hI ((ih _ (by omega)).1 hr) rfl ?_
  clear hr
  try cbv
  obtain rfl:=Option.some.inj h
  refine fin_go ?_
  try cbv
  exact⟨[],rfl,rfl,trivial,trivial,trivial⟩
 intro l1 l2 r1 h
 rw[F48]at h
 refine Trip.of tab_ok tab_one fol Try.func48 rfl (by kernel_rfl) rfl rfl rfl (fun M hM hI=>?_)
 try cbv
 refine seq_go ?_
 try cbv
 refine seq_go ?_
 try cbv
 refine seq_join (T:=Nat×Bool) (fun t=>⟨[(0,.v (.d (.list true 6 l1))),(1,.v (.d (.list true 6 l2))),(4,.v (.d (.bool false))),(10,.v (.d (.bool t.2)))],[],192⟩) (fun t=>t.1≤n∧L48_1 t.1 l1 l2 t.2=some r1) ?_ ?_
 ·try cbv
  replace h:=lenF_inv M h
  obtain⟨z3,hz,h⟩:=h
  refine⟨z3,hz,?_⟩
  clear hz
  try cbv
  replace h:=lenF_inv M h
  obtain⟨z4,hz,h⟩:=h
  refine⟨z4,hz,?_⟩
  clear hz
  try cbv
  refine splitI (fun e=>?_) (fun e=>?_)
  ·replace h:=ite_t e h
   clear e
   try cbv
   exact join_next (n,false) [0,1,4,10] [] 192 ⟨by omega,h⟩ (by cbv)
  replace h:=ite_f e h
  clear e
  try cbv
  exact join_next (n,true) [0,1,4,10] [] 192 ⟨by omega,h⟩ (by cbv)
 clear h
 rintro⟨m1,b5⟩ ⟨hm1,h⟩
 replace hm1:m1≤n:=hm1
 obtain _ | m1:=m1
 ·replace h:L48_1 0 l1 l2 b5=some r1:=h
  rw[L48_1]at h
  cases h
 replace h:L48_1 (m1+1) l1 l2 b5=some r1:=h
 rw[L48_1]at h
 try cbv
 cases b5
 rotate_left
 ·replace h:=ite_t rfl h
  try cbv
  refine seq_go ?_
  try cbv
  obtain rfl:=Option.some.inj h
  refine fin_go ?_
  try cbv
  exact⟨[],rfl,rfl,trivial,trivial,trivial⟩
 replace h:=ite_f Bool.false_ne_true h
 try cbv
 refine seq_go ?_
 try cbv
 refine seq_go ?_
 try cbv
 refine loop_inv (T:=Nat×Int) [0,1,4,5] [] 224 (fun t=>⟨[(0,.v (.d (.list true 6 l1))),(1,.v (.d (.list true 6 l2))),(4,.v (.d (.bool false))),(5,.v (.d (.int .i64 t.2)))],[],224⟩)
   (fun t=>t.1≤m1∧L48_2 t.1 l1 l2 t.2=some r1) (fun t=>t.1) (m1,(0:Int)) ⟨Nat.le_refl _,h⟩ (by cbv) ?_
 clear h
 rintro⟨m2,z6⟩ ⟨hm2,h⟩
 replace hm2:m2≤m1:=hm2
 obtain _ | m2:=m2
 ·replace h:L48_2 0 l1 l2 z6=some r1:=h
  rw[L48_2]at h
  cases h
 replace h:L48_2 (m2+1) l1 l2 z6=some r1:=h
 rw[L48_2]at h
 try cbv
 refine seq_go ?_
 try cbv
 refine seq_join (T:=Nat×Bool) (fun t=>⟨[(0,.v (.d (.list true 6 l1))),(1,.v (.d (.list true 6 l2))),(4,.v (.d (.bool false))),(5,.v (.d (.int .i64 z6))),(14,.v (.d (.bool t.2)))],[],352⟩) (fun t=>t.1≤m2∧L48_3 t.1 l1 l2 z6 t.2=some r1) ?_ ?_
 ·try cbv
  replace h:=lenF_inv M h
  obtain⟨z7,hz,h⟩:=h
  refine⟨z7,hz,?_⟩
  clear hz
  try cbv
  refine splitL (fun e=>?_) (fun e=>?_)
  ·replace h:=ite_t e h
   clear e
   try cbv
   exact join_next (m2,true) [0,1,4,5,14] [] 352 ⟨by omega,h⟩ (by cbv)
  replace h:=ite_f (Int.not_lt.2 e) h
  clear e
  try cbv
  exact join_next (m2,false) [0,1,4,5,14] [] 352 ⟨by omega,h⟩ (by cbv)
 clear h
 rintro⟨m3,b8⟩ ⟨hm3,h⟩
 replace hm3:m3≤m2:=hm3
 obtain _ | m3:=m3
 ·replace h:L48_3 0 l1 l2 z6 b8=some r1:=h
  rw[L48_3]at h
  cases h
 replace h:L48_3 (m3+1) l1 l2 z6 b8=some r1:=h
 rw[L48_3]at h
 try cbv
 cases b8
 ·replace h:=ite_f Bool.false_ne_true h
  try cbv
  refine seq_go ?_
  try cbv
  obtain rfl:=Option.some.inj h
  refine fin_go ?_
  try cbv
  exact⟨[],rfl,rfl,trivial,trivial,trivial⟩
 replace h:=ite_t rfl h
 try cbv
 refine seq_go ?_
 try cbv
 refine seq_go ?_
 try cbv
 replace h:=getF_inv h
 obtain⟨x9,hx9,h⟩:=h
 replace h:=ds_t49_inv h
 obtain⟨z10,z11,s12,l13,z14,l15,rfl,h⟩:=h
 refine⟨_,hx9.1,hx9.2,?_⟩
 try cbv
 replace h:=getF_inv h
 obtain⟨x16,hx16,h⟩:=h
 replace h:=ds_t49_inv h
 obtain⟨z17,z18,s19,l20,z21,l22,rfl,h⟩:=h
 refine⟨_,hx16.1,hx16.2,?_⟩
 try cbv
 replace h:=bO1_inv h
 obtain⟨b23,hr,h⟩:=h
 first | refine .inr (.inl ⟨[],?_⟩) | refine .inl ⟨[],?_⟩
 try cbv
 refine call_pure hM hI ((ih _ (by omega)).2 hr) rfl ?_
 clear hr
 try cbv
 replace h:=letB_inv h
 obtain⟨b24,hz,h⟩:=h
 refine⟨b24,not_eq' hz,?_⟩
 clear hz
 try cbv
 refine drawn ?_ ?_
 ·show _=true
  kernel_rfl
 try cbv
 cases b24
 ·replace h:=ite_f Bool.false_ne_true h
  try cbv
  replace h:=letF_inv h
  obtain⟨z25,hz,h⟩:=h
  refine⟨z25,hz,?_⟩
  clear hz
  try cbv
  exact loop_next (m3,z25) [0,1,4,5] [] 224 ⟨by omega,h⟩ (Nat.lt_succ_of_le (by omega)) (by cbv)
 replace h:=ite_t rfl h
 try cbv
 refine seq_go ?_
 try cbv
 obtain rfl:=Option.some.inj h
 refine fin_go ?_
 try cbv
 exact⟨[],rfl,rfl,trivial,trivial,trivial⟩
theorem T48 (n:Nat):∀⦃l1:List D⦄ ⦃l2:List D⦄ ⦃r1:Bool⦄,F48 n l1 l2=some r1→
  Trip Try.prog inv 48 [.d (.list true 6 l1),.d (.list true 6 l2)] [] (.v (.d (.bool r1))) [] []:=(G48 n).1
theorem T34 (n:Nat):∀⦃z1:Int⦄ ⦃z2:Int⦄ ⦃s3:ByteArray⦄ ⦃l4:List D⦄ ⦃z5:Int⦄ ⦃l6:List D⦄ ⦃z7:Int⦄ ⦃z8:Int⦄ ⦃s9:ByteArray⦄ ⦃l10:List D⦄ ⦃z11:Int⦄ ⦃l12:List D⦄ ⦃r1:Bool⦄,F34 n z1 z2 s3 l4 z5 l6 z7 z8 s9 l10 z11 l12=some r1→
  Trip Try.prog inv 34 [.d (.agg [.int .u8 z1,.int .i64 z2,.str s3,.list true 6 l4,.int .i64 z5,.list false 1 l6]),.d (.agg [.int .u8 z7,.int .i64 z8,.str s9,.list true 6 l10,.int .i64 z11,.list false 1 l12])] [] (.v (.d (.bool r1))) [] []:=(G48 n).2
def L141_1:Nat→(List D)→Bool→Option (List D)
 | 0,_,_=>none
 | n+1,l1,b2=>
  (if b2=true then some ([]:List D)else needF (scalB l1=true) (appF 8 ([]:List D) l1 fun l3=>some l3))
def F141 (n:Nat) (l1:List D):Option (List D):=
 (nilF l1 (L141_1 n l1 true) (L141_1 n l1 false))
theorem T141 (n:Nat):∀⦃l1:List D⦄ ⦃r1:List D⦄,F141 n l1=some r1→
    Trip Try.prog inv 141 [.d (.list false 1 l1)] [] (.v (.c (.ow (.loc 0)))) [] [.tree .row false 1 r1 none]:=by
 intro l1 r1 h
 unfold F141 at h
 refine Trip.of tab_ok tab_one fol Try.func141 rfl (by kernel_rfl) rfl rfl rfl (fun M hM hI=>?_)
 try cbv
 refine seq_go ?_
 try cbv
 refine seq_go ?_
 try cbv
 refine seq_join (T:=Nat×Bool) (fun t=>⟨[(0,.v (.d (.list false 1 l1))),(2,.v (.c (.nils false 1))),(4,.v (.d (.bool t.2)))],[],96⟩) (fun t=>t.1≤n∧L141_1 t.1 l1 t.2=some r1) ?_ ?_
 ·try cbv
  replace h:=nilF_inv h
  obtain⟨h,hA⟩:=h
  refine nil_both ?_ (fun e=>?_)
  ·clear hA
   try cbv
   exact join_next (n,false) [0,2,4] [] 96 ⟨by omega,h⟩ (by cbv)
  replace h:=hA e
  clear hA
  try cbv
  exact join_next (n,true) [0,2,4] [] 96 ⟨by omega,h⟩ (by cbv)
 clear h
 rintro⟨m1,b2⟩ ⟨hm1,h⟩
 replace hm1:m1≤n:=hm1
 obtain _ | m1:=m1
 ·replace h:L141_1 0 l1 b2=some r1:=h
  rw[L141_1]at h
  cases h
 replace h:L141_1 (m1+1) l1 b2=some r1:=h
 rw[L141_1]at h
 try cbv
 cases b2
 rotate_left
 ·replace h:=ite_t rfl h
  try cbv
  refine seq_go ?_
  try cbv
  obtain rfl:=Option.some.inj h
  refine⟨_,_,_,⟨rfl,rfl,rfl⟩,[.treeS 2 false 1],?_⟩
  try cbv
  exact⟨[.loc 128],rfl,rfl,trivial,⟨rfl,trivial⟩,trivial⟩
 replace h:=ite_f Bool.false_ne_true h
 try cbv
 refine seq_go ?_
 try cbv
 refine⟨true,?_⟩
 try cbv
 refine⟨[],?_⟩
 try cbv
 refine⟨[],rfl,?_⟩
 try cbv
 refine op_pl ?_
 try cbv
 refine⟨true,?_⟩
 try cbv
 refine⟨true,?_⟩
 try cbv
 refine⟨[],?_⟩
 try cbv
 replace h:=needF_inv h
 obtain⟨hs,h⟩:=h
 replace h:=appF_inv h
 obtain⟨l3,hb,hz,h⟩:=h
 refine⟨scalB_iff.1 hs,(M.lock_iff _).2 hb,l3,hz,?_⟩
 clear hs hb hz
 try cbv
 obtain rfl:=Option.some.inj h
 refine fin_go ?_
 try cbv
 exact⟨[.loc 160],rfl,rfl,trivial,⟨rfl,trivial⟩,trivial⟩
mutual
def L95_1:Nat→Int→Int→ByteArray→(List D)→Int→(List D)→Int→Int→(List D)→Option (Int×Int×ByteArray×Int×List D×List D)
 | 0,_,_,_,_,_,_,_,_,_=>none
 | n+1,z1,z2,s3,l4,z5,l6,z7,z8,l9=>
  (if z8<z7 then L95_2 n z1 z2 s3 l4 z5 l6 z7 z8 l9 true else L95_2 n z1 z2 s3 l4 z5 l6 z7 z8 l9 false)
def L95_2:Nat→Int→Int→ByteArray→(List D)→Int→(List D)→Int→Int→(List D)→Bool→Option (Int×Int×ByteArray×Int×List D×List D)
 | 0,_,_,_,_,_,_,_,_,_,_=>none
 | n+1,z1,z2,s3,l4,z5,l6,z7,z8,l9,b10=>
  (if b10=true then getF l4 z8 fun x11=>ds_t49 x11 fun z12 z13 s14 l15 z16 l17=>bO6 (F95 n z12 z13 s14 l15 z16 l17) fun z18 z19 s20 z21 l22 l23=>appF 88 l9 ([.agg [.int .u8 z18,.int .i64 z19,.str s20,.list true 6 l22,.int .i64 z21,.list false 1 l23]]) fun l24=>letF (IntKind.wrap .i64 (z8+1)) fun z25=>L95_1 n z1 z2 s3 l4 z5 l6 z7 z25 l24 else bO1 (F141 n l6) fun l26=>some (z1,z2,s3,z5,l9,l26))
def F95:Nat→Int→Int→ByteArray→(List D)→Int→(List D)→Option (Int×Int×ByteArray×Int×List D×List D)
 | 0,_,_,_,_,_,_=>none
 | n+1,z1,z2,s3,l4,z5,l6=>
  lenF l4 fun z7=>L95_1 n z1 z2 s3 l4 z5 l6 z7 (0:Int) ([]:List D)
end
theorem T95 (n:Nat):∀⦃z1:Int⦄ ⦃z2:Int⦄ ⦃s3:ByteArray⦄ ⦃l4:List D⦄ ⦃z5:Int⦄ ⦃l6:List D⦄ ⦃r1:Int⦄ ⦃r2:Int⦄ ⦃r3:ByteArray⦄ ⦃r4:Int⦄ ⦃r5:List D⦄ ⦃r6:List D⦄,F95 n z1 z2 s3 l4 z5 l6=some (r1,r2,r3,r4,r5,r6)→
    Trip Try.prog inv 95 [.d (.agg [.int .u8 z1,.int .i64 z2,.str s3,.list true 6 l4,.int .i64 z5,.list false 1 l6])] [] (.v (.agg [.d (.int .u8 r1),.d (.int .i64 r2),.d (.str r3),.ow (.loc 0),.d (.int .i64 r4),.ow (.loc 1)])) [] [.tree .row true 6 r5 none,.tree .row false 1 r6 none]:=by
 induction n using Nat.strongRecOn with | _ n ih=>
 obtain _ | n:=n
 ·intro z1 z2 s3 l4 z5 l6 r1 r2 r3 r4 r5 r6 h
  cases (show (none:Option _)=some _ from h)
 intro z1 z2 s3 l4 z5 l6 r1 r2 r3 r4 r5 r6 h
 rw[F95]at h
 refine Trip.of tab_ok tab_one fol Try.func95 rfl (by kernel_rfl) rfl rfl rfl (fun M hM hI=>?_)
 try cbv
 refine seq_go ?_
 try cbv
 refine seq_go ?_
 try cbv
 refine seq_go ?_
 try cbv
 refine seq_go ?_
 try cbv
 replace h:=lenF_inv M h
 obtain⟨z7,hz,h⟩:=h
 refine⟨z7,hz,?_⟩
 clear hz
 try cbv
 refine loop_invG (T:=Nat×Int×List D) [.treeS 3 true 6] [] [1,2,3,7,8,9] [.loc 0,.loc 32,.loc 224] 256 (fun t=>⟨[(1,.v (.c (.ptr (.loc 0) 0))),(2,.v (.c (.ptr (.loc 32) 0))),(3,.v (.c (.ow (.loc 224)))),(7,.v (.d (.list true 6 l4))),(8,.v (.d (.int .i64 z7))),(9,.v (.d (.int .i64 t.2.1)))],[(.loc 0,.cells [.d (.int .u8 z1),.d (.int .i64 z2),.d (.str s3),.d (.list true 6 l4),.d (.int .i64 z5),.d (.list false 1 l6)]),(.loc 32,.cells [.d (.int .u8 0),.d (.int .i64 0),.d (.str ByteArray.empty),.nils true 6,.d (.int .i64 0),.nils false 1]),(.loc 224,.tree .row true 6 t.2.2 none)],256⟩)
   (fun t=>t.1≤n∧L95_1 t.1 z1 z2 s3 l4 z5 l6 z7 t.2.1 t.2.2=some (r1,r2,r3,r4,r5,r6)) (fun t=>t.1) (n,((0:Int),([]:List D))) ⟨Nat.le_refl _,h⟩ (by cbv) ?_
 clear h
 rintro⟨m1,z8,l9⟩ ⟨hm1,h⟩
 replace hm1:m1≤n:=hm1
 obtain _ | m1:=m1
 ·replace h:L95_1 0 z1 z2 s3 l4 z5 l6 z7 z8 l9=some (r1,r2,r3,r4,r5,r6):=h
  rw[L95_1]at h
  cases h
 replace h:L95_1 (m1+1) z1 z2 s3 l4 z5 l6 z7 z8 l9=some (r1,r2,r3,r4,r5,r6):=h
 rw[L95_1]at h
 try cbv
 refine seq_join (T:=Nat×Bool) (fun t=>⟨[(1,.v (.c (.ptr (.loc 0) 0))),(2,.v (.c (.ptr (.loc 32) 0))),(3,.v (.c (.ow (.loc 224)))),(7,.v (.d (.list true 6 l4))),(8,.v (.d (.int .i64 z7))),(9,.v (.d (.int .i64 z8))),(10,.v (.d (.bool t.2)))],[(.loc 0,.cells [.d (.int .u8 z1),.d (.int .i64 z2),.d (.str s3),.d (.list true 6 l4),.d (.int .i64 z5),.d (.list false 1 l6)]),(.loc 32,.cells [.d (.int .u8 0),.d (.int .i64 0),.d (.str ByteArray.empty),.nils true 6,.d (.int .i64 0),.nils false 1]),(.loc 224,.tree .row true 6 l9 none)],288⟩) (fun t=>t.1≤m1∧L95_2 t.1 z1 z2 s3 l4 z5 l6 z7 z8 l9 t.2=some (r1,r2,r3,r4,r5,r6)) ?_ ?_
 ·try cbv
  refine splitL (fun e=>?_) (fun e=>?_)
  ·replace h:=ite_t e h
   clear e
   try cbv
   exact join_next (m1,true) [1,2,3,7,8,9,10] [.loc 0,.loc 32,.loc 224] 288 ⟨by omega,h⟩ (by cbv)
  replace h:=ite_f (Int.not_lt.2 e) h
  clear e
  try cbv
  exact join_next (m1,false) [1,2,3,7,8,9,10] [.loc 0,.loc 32,.loc 224] 288 ⟨by omega,h⟩ (by cbv)
 clear h
 rintro⟨m2,b10⟩ ⟨hm2,h⟩
 replace hm2:m2≤m1:=hm2
 obtain _ | m2:=m2
 ·replace h:L95_2 0 z1 z2 s3 l4 z5 l6 z7 z8 l9 b10=some (r1,r2,r3,r4,r5,r6):=h
  rw[L95_2]at h
  cases h
 replace h:L95_2 (m2+1) z1 z2 s3 l4 z5 l6 z7 z8 l9 b10=some (r1,r2,r3,r4,r5,r6):=h
 rw[L95_2]at h
 try cbv
 refine seq_go ?_
 try cbv
 cases b10
 ·replace h:=ite_f Bool.false_ne_true h
  try cbv
  refine seq_go ?_
  try cbv
  replace h:=bO1_inv h
  obtain⟨l26,hr,h⟩:=h
  refine call_go rfl rfl ?_
  try cbv
  refine call_with hM hI [] (T141 _ hr) rfl (by simp) trivial trivial (by simp) ?_
  clear hr
  try cbv
  refine seq_go ?_
  try cbv
  obtain⟨rfl,rfl,rfl,rfl,rfl,rfl⟩:=inj6 h
  refine fin_go ?_
  try cbv
  exact⟨[.loc 224,.loc 384],rfl,rfl,trivial,⟨rfl,⟨rfl,trivial⟩⟩,trivial⟩
 replace h:=ite_t rfl h
 try cbv
 refine seq_go ?_
 try cbv
 refine seq_go ?_
 try cbv
 replace h:=getF_inv h
 obtain⟨x11,hx11,h⟩:=h
 replace h:=ds_t49_inv h
 obtain⟨z12,z13,s14,l15,z16,l17,rfl,h⟩:=h
 refine⟨_,hx11.1,hx11.2,?_⟩
 try cbv
 replace h:=bO6_inv h
 obtain⟨z18,z19,s20,z21,l22,l23,hr,h⟩:=h
 refine call_go rfl rfl ?_
 try cbv
 refine call_with hM hI [] ((ih _ (by omega)) hr) rfl (by simp) trivial trivial (by simp) ?_
 clear hr
 try cbv
 refine⟨false,?_⟩
 try cbv
 refine⟨false,?_⟩
 try cbv
 refine op_pl ?_
 try cbv
 refine⟨true,?_⟩
 try cbv
 refine⟨true,?_⟩
 try cbv
 refine⟨[],?_⟩
 try cbv
 replace h:=appF_inv h
 obtain⟨l24,hb,hz,h⟩:=h
 refine⟨[.agg [.int .u8 z18,.int .i64 z19,.str s20,.list true 6 l22,.int .i64 z21,.list false 1 l23]],rfl,?_⟩
 try cbv
 refine⟨(M.lock_iff _).2 hb,l24,hz,?_⟩
 clear hb hz
 try cbv
 replace h:=letF_inv h
 obtain⟨z25,hz,h⟩:=h
 refine⟨z25,hz,?_⟩
 clear hz
 try cbv
 refine loop_nextG (m2,(z25,l24)) [] [(544,224)] [1,2,3,7,8,9] [.loc 0,.loc 32,.loc 544] 256 ⟨by omega,h⟩ (Nat.lt_succ_of_le (by omega)) ?_
 try cbv
mutual
def L93_1:Nat→(List D)→Int→(List D)→Option (List D)
 | 0,_,_,_=>none
 | n+1,l1,z2,l3=>
  lenF l1 fun z4=>(if z2<z4 then L93_2 n l1 z2 l3 true else L93_2 n l1 z2 l3 false)
def L93_2:Nat→(List D)→Int→(List D)→Bool→Option (List D)
 | 0,_,_,_,_=>none
 | n+1,l1,z2,l3,b5=>
  (if b5=true then getF l1 z2 fun x6=>ds_t49 x6 fun z7 z8 s9 l10 z11 l12=>bO6 (F29 n z7 z8 s9 l10 z11 l12) fun z13 z14 s15 z16 l17 l18=>appF 88 l3 ([.agg [.int .u8 z13,.int .i64 z14,.str s15,.list true 6 l17,.int .i64 z16,.list false 1 l18]]) fun l19=>letF (IntKind.wrap .i64 (z2+1)) fun z20=>L93_1 n l1 z20 l19 else some l3)
def F93:Nat→(List D)→Option (List D)
 | 0,_=>none
 | n+1,l1=>
  L93_1 n l1 (0:Int) ([]:List D)
def F29:Nat→Int→Int→ByteArray→(List D)→Int→(List D)→Option (Int×Int×ByteArray×Int×List D×List D)
 | 0,_,_,_,_,_,_=>none
 | n+1,z1,z2,s3,l4,z5,l6=>
  bO1 (F93 n l4) fun l7=>appF 88 ([]:List D) l7 fun l8=>needF (scalB l6=true) (appF 8 ([]:List D) l6 fun l9=>some (z1,z2,s3,z5,l8,l9))
end
theorem G93 (n:Nat):(∀⦃l1:List D⦄ ⦃r1:List D⦄,F93 n l1=some r1→
    Trip Try.prog inv 93 [.d (.list true 6 l1)] [] (.v (.c (.ow (.loc 0)))) [] [.tree .row true 6 r1 none])∧
    (∀⦃z1:Int⦄ ⦃z2:Int⦄ ⦃s3:ByteArray⦄ ⦃l4:List D⦄ ⦃z5:Int⦄ ⦃l6:List D⦄ ⦃r1:Int⦄ ⦃r2:Int⦄ ⦃r3:ByteArray⦄ ⦃r4:Int⦄ ⦃r5:List D⦄ ⦃r6:List D⦄,F29 n z1 z2 s3 l4 z5 l6=some (r1,r2,r3,r4,r5,r6)→
    Trip Try.prog inv 29 [.d (.agg [.int .u8 z1,.int .i64 z2,.str s3,.list true 6 l4,.int .i64 z5,.list false 1 l6])] [] (.v (.agg [.d (.int .u8 r1),.d (.int .i64 r2),.d (.str r3),.ow (.loc 0),.d (.int .i64 r4),.ow (.loc 1)])) [] [.tree .row true 6 r5 none,.tree .row false 1 r6 none]):=by
 induction n using Nat.strongRecOn with | _ n ih=>
 obtain _ | n:=n
 ·refine⟨?_,?_⟩
  ·intro l1 r1 h
   cases (show (none:Option _)=some _ from h)
  intro z1 z2 s3 l4 z5 l6 r1 r2 r3 r4 r5 r6 h
  cases (show (none:Option _)=some _ from h)
 refine⟨?_,?_⟩
 rotate_left
 ·intro z1 z2 s3 l4 z5 l6 r1 r2 r3 r4 r5 r6 h
  rw[F29]at h
  refine Trip.of tab_ok tab_one fol Try.func29 rfl (by kernel_rfl) rfl rfl rfl (fun M hM hI=>?_)
  try cbv
  refine seq_go ?_
  try cbv
  refine seq_go ?_
  try cbv
  refine seq_go ?_
  try cbv
  refine seq_go ?_
  try cbv
  replace h:=bO1_inv h
  obtain⟨l7,hr,h⟩:=h
  first | refine .inr (.inl ⟨[],?_⟩) | refine .inl ⟨[],?_⟩
  try cbv
  refine call_with hM hI [] ((ih _ (by omega)).1 hr) rfl (by simp) trivial trivial (by simp) ?_
  clear hr
  try cbv
  refine⟨true,?_⟩
  try cbv
  refine⟨true,?_⟩
  try cbv
  refine⟨[],?_⟩
  try cbv
  replace h:=appF_inv h
  obtain⟨l8,hb,hz,h⟩:=h
  refine⟨(M.lock_iff _).2 hb,l8,hz,?_⟩
  clear hb hz
  try cbv
  refine drawn ?_ ?_
  ·show _=true
   kernel_rfl
  try cbv
  refine seq_go ?_
  try cbv
  refine⟨true,?_⟩
  try cbv
  refine⟨true,?_⟩
  try cbv
  refine⟨[],?_⟩
  try cbv
  replace h:=needF_inv h
  obtain⟨hs,h⟩:=h
  replace h:=appF_inv h
  obtain⟨l9,hb,hz,h⟩:=h
  refine⟨scalB_iff.1 hs,(M.lock_iff _).2 hb,l9,hz,?_⟩
  clear hs hb hz
  try cbv
  refine seq_go ?_
  try cbv
  obtain⟨rfl,rfl,rfl,rfl,rfl,rfl⟩:=inj6 h
  refine fin_go ?_
  try cbv
  exact⟨[.loc 448,.loc 672],rfl,rfl,trivial,⟨rfl,⟨rfl,trivial⟩⟩,trivial⟩
 intro l1 r1 h
 rw[F93]at h
 refine Trip.of tab_ok tab_one fol Try.func93 rfl (by kernel_rfl) rfl rfl rfl (fun M hM hI=>?_)
 try cbv
 refine seq_go ?_
 try cbv
 refine seq_go ?_
 try cbv
 refine seq_go ?_
 try cbv
 refine seq_go ?_
 try cbv
 refine loop_invG (T:=Nat×Int×List D) [.treeS 3 true 6] [] [0,2,3,4] [.loc 96] 128 (fun t=>⟨[(0,.v (.d (.list true 6 l1))),(2,.v (.c (.nils true 6))),(3,.v (.c (.ow (.loc 96)))),(4,.v (.d (.int .i64 t.2.1)))],[(.loc 96,.tree .row true 6 t.2.2 none)],128⟩)
   (fun t=>t.1≤n∧L93_1 t.1 l1 t.2.1 t.2.2=some r1) (fun t=>t.1) (n,((0:Int),([]:List D))) ⟨Nat.le_refl _,h⟩ (by cbv) ?_
 clear h
 rintro⟨m1,z2,l3⟩ ⟨hm1,h⟩
 replace hm1:m1≤n:=hm1
 obtain _ | m1:=m1
 ·replace h:L93_1 0 l1 z2 l3=some r1:=h
  rw[L93_1]at h
  cases h
 replace h:L93_1 (m1+1) l1 z2 l3=some r1:=h
 rw[L93_1]at h
 try cbv
 refine seq_go ?_
 try cbv
 refine seq_join (T:=Nat×Bool) (fun t=>⟨[(0,.v (.d (.list true 6 l1))),(2,.v (.c (.nils true 6))),(3,.v (.c (.ow (.loc 96)))),(4,.v (.d (.int .i64 z2))),(8,.v (.d (.bool t.2)))],[(.loc 96,.tree .row true 6 l3 none)],256⟩) (fun t=>t.1≤m1∧L93_2 t.1 l1 z2 l3 t.2=some r1) ?_ ?_
 ·try cbv
  replace h:=lenF_inv M h
  obtain⟨z4,hz,h⟩:=h
  refine⟨z4,hz,?_⟩
  clear hz
  try cbv
  refine splitL (fun e=>?_) (fun e=>?_)
  ·replace h:=ite_t e h
   clear e
   try cbv
   exact join_next (m1,true) [0,2,3,4,8] [.loc 96] 256 ⟨by omega,h⟩ (by cbv)
  replace h:=ite_f (Int.not_lt.2 e) h
  clear e
  try cbv
  exact join_next (m1,false) [0,2,3,4,8] [.loc 96] 256 ⟨by omega,h⟩ (by cbv)
 clear h
 rintro⟨m2,b5⟩ ⟨hm2,h⟩
 replace hm2:m2≤m1:=hm2
 obtain _ | m2:=m2
 ·replace h:L93_2 0 l1 z2 l3 b5=some r1:=h
  rw[L93_2]at h
  cases h
 replace h:L93_2 (m2+1) l1 z2 l3 b5=some r1:=h
 rw[L93_2]at h
 try cbv
 cases b5
 ·replace h:=ite_f Bool.false_ne_true h
  try cbv
  refine seq_go ?_
  try cbv
  obtain rfl:=Option.some.inj h
  refine fin_go ?_
  try cbv
  exact⟨[.loc 96],rfl,rfl,trivial,⟨rfl,trivial⟩,trivial⟩
 replace h:=ite_t rfl h
 try cbv
 refine seq_go ?_
 try cbv
 replace h:=getF_inv h
 obtain⟨x6,hx6,h⟩:=h
 replace h:=ds_t49_inv h
 obtain⟨z7,z8,s9,l10,z11,l12,rfl,h⟩:=h
 refine⟨_,hx6.1,hx6.2,?_⟩
 try cbv
 replace h:=bO6_inv h
 obtain⟨z13,z14,s15,z16,l17,l18,hr,h⟩:=h
 refine call_go rfl rfl ?_
 try cbv
 refine call_with hM hI [] ((ih _ (by omega)).2 hr) rfl (by simp) trivial trivial (by simp) ?_
 clear hr
 try cbv
 refine⟨false,?_⟩
 try cbv
 refine⟨false,?_⟩
 try cbv
 refine op_pl ?_
 try cbv
 refine⟨true,?_⟩
 try cbv
 refine⟨true,?_⟩
 try cbv
 refine⟨[],?_⟩
 try cbv
 replace h:=appF_inv h
 obtain⟨l19,hb,hz,h⟩:=h
 refine⟨[.agg [.int .u8 z13,.int .i64 z14,.str s15,.list true 6 l17,.int .i64 z16,.list false 1 l18]],rfl,?_⟩
 try cbv
 refine⟨(M.lock_iff _).2 hb,l19,hz,?_⟩
 clear hb hz
 try cbv
 replace h:=letF_inv h
 obtain⟨z20,hz,h⟩:=h
 refine⟨z20,hz,?_⟩
 clear hz
 try cbv
 refine loop_nextG (m2,(z20,l19)) [] [(480,96)] [0,2,3,4] [.loc 480] 128 ⟨by omega,h⟩ (Nat.lt_succ_of_le (by omega)) ?_
 try cbv
theorem T93 (n:Nat):∀⦃l1:List D⦄ ⦃r1:List D⦄,F93 n l1=some r1→
  Trip Try.prog inv 93 [.d (.list true 6 l1)] [] (.v (.c (.ow (.loc 0)))) [] [.tree .row true 6 r1 none]:=(G93 n).1
theorem T29 (n:Nat):∀⦃z1:Int⦄ ⦃z2:Int⦄ ⦃s3:ByteArray⦄ ⦃l4:List D⦄ ⦃z5:Int⦄ ⦃l6:List D⦄ ⦃r1:Int⦄ ⦃r2:Int⦄ ⦃r3:ByteArray⦄ ⦃r4:Int⦄ ⦃r5:List D⦄ ⦃r6:List D⦄,F29 n z1 z2 s3 l4 z5 l6=some (r1,r2,r3,r4,r5,r6)→
  Trip Try.prog inv 29 [.d (.agg [.int .u8 z1,.int .i64 z2,.str s3,.list true 6 l4,.int .i64 z5,.list false 1 l6])] [] (.v (.agg [.d (.int .u8 r1),.d (.int .i64 r2),.d (.str r3),.ow (.loc 0),.d (.int .i64 r4),.ow (.loc 1)])) [] [.tree .row true 6 r5 none,.tree .row false 1 r6 none]:=(G93 n).2
end Go.Proofs.Ytiiojajgajnhpaa
end
set_option linter.unusedVariables false
noncomputable section
namespace Go.Proofs.Ytiiojajgajnhpaa
open Go Go.AM
theorem iw {z:Int}(h1: -9223372036854775808≤z) (h2:z≤9223372036854775807):IntKind.i64.wrap z=z:=IntWalk.i64_in _ (by omega)
theorem ilt {i n:Nat}(h:i<n):(i:Int)<(n:Int):=by omega
theorem need_pos {γ:Type}{p:Prop} [Decidable p] (h:p) (x:Option γ):needF p x=x:=if_pos h
theorem appF_ok {γ:Type}{b:Nat}{L M:List D}{k:List D→Option γ}(h:L.length+M.length≤maxLen∧(L.length+M.length)*b≤140737488355328):appF b L M k=k (L++M):=by
 unfold appF
 exact if_pos h
theorem getN_some {γ:Type}{L:List D}{i:Nat}{x:D}{k:D→Option γ}(h:L[i]?=some x):getN L i k=k x:=by unfold getN;rw[h]
structure VV where
 k:Int
 i:Int
 nm:ByteArray
 fs:List D
 id:Int
 pt:List D
def VV.row (v:VV):D:=.agg [.int .u8 v.k,.int .i64 v.i,.str v.nm,.list true 6 v.fs,.int .i64 v.id,.list false 1 v.pt]
def zeroV:VV:=⟨0,0,ByteArray.empty,[],0,[]⟩
def un:D→VV
 | .agg [.int _ a0,.int _ a1,.str a2,.list _ _ a3,.int _ a4,.list _ _ a5]=>⟨a0,a1,a2,a3,a4,a5⟩
 | _=>zeroV
theorem un_row (v:VV):un v.row=v:=rfl
theorem row_inj {v w:VV}(h:v.row=w.row):v=w:=by rw[←un_row v,h,un_row]
structure VT (v:VV):Prop where
 k:(Lit.int .u8 v.k).wf=true
 i:(Lit.int .i64 v.i).wf=true
 nm:v.nm.size≤maxLen
 fs:ListS tab 49 v.fs
 id:(Lit.int .i64 v.id).wf=true
 pt:ListS tab 3 v.pt
inductive Sm:List D→Prop
 | mk {l:List D} (h:l.length≤1000) (hp:∀v:VV,v.row∈l→v.pt.length≤10000) (hf:∀v:VV,v.row∈l→Sm v.fs):Sm l
theorem Sm.len {l:List D}(h:Sm l):l.length≤1000:=by cases h;assumption
theorem Sm.pt {l:List D}(h:Sm l) {v:VV}(hv:v.row∈l):v.pt.length≤10000:=by
 cases h with
 | mk h hp hf=>exact hp v hv
theorem Sm.fs {l:List D}(h:Sm l) {v:VV}(hv:v.row∈l):Sm v.fs:=by
 cases h with
 | mk h hp hf=>exact hf v hv
structure VS (v:VV):Prop where
 t:VT v
 p:v.pt.length≤10000
 f:Sm v.fs
theorem rowV {l:List D}(h:ListS tab 49 l) {i:Nat}(hi:i<l.length):∃v:VV,l[i]?=some v.row∧v.row∈l∧VT v:=by
 obtain⟨x,hx,hm,hr⟩:=h.get hi
 obtain⟨a0,a1,a2,a3,a4,a5,rfl,w0,w1,w2,w3,w4,w5⟩:=rs49 hr
 exact⟨⟨a0,a1,a2,a3,a4,a5⟩,hx,hm,⟨w0,w1,w2,w3,w4,w5⟩⟩
theorem ds25 {γ:Type}(v:VV) (k:Int→Int→ByteArray→List D→Int→List D→Option γ):ds_t49 v.row k=k v.k v.i v.nm v.fs v.id v.pt:=rfl
theorem size_fs {l:List D}{v:VV}(h:v.row∈l):SizeOf.sizeOf v.fs<SizeOf.sizeOf l:=size_row (ag:=true) (sz:=6) h (by simp)
theorem intsS {l:List D}(h:ListS tab 3 l):∃q:List Int,l=q.map (D.int .i64)∧∀z∈q,(Lit.int .i64 z).wf=true:=by
 induction l with
 | nil=>exact⟨[],rfl,by simp⟩
 | cons x l ih=>
  obtain⟨q,rfl,hq⟩:=ih ⟨by have:=h.1;simp only[List.length_cons]at this;omega,fun y hy=>h.2 y (List.mem_cons_of_mem _ hy)⟩
  obtain⟨z,rfl,hz⟩:=rs3 (h.2 x (by simp))
  exact⟨z::q,rfl,fun y hy=>by rcases List.mem_cons.1 hy with rfl | hy;exact hz;exact hq y hy⟩
abbrev pD (q:List Int):List D:=q.map (D.int .i64)
theorem ev24 (l:List D):ListS tab 49 l→∀z:Int,-1≤z→z≤10000→∃r,Ev (fun n=>F92 n l z) r∧ -1≤r∧r≤z+0∧(0≤r→Sm l∧10*(l.length:Int)≤z - r):=by
 refine list_ind (P:=fun l=>ListS tab 49 l→∀z:Int,-1≤z→z≤10000→∃r,Ev (fun n=>F92 n l z) r∧ -1≤r∧r≤z+0∧(0≤r→Sm l∧10*(l.length:Int)≤z - r)) (fun l ih h=>?_) l
 have loop:∀i:Nat,i≤l.length→∀z:Int,-1≤z→z≤10000→∃r,Ev (fun n=>L92_1 n l z (i:Int)) r∧ -1≤r∧r≤z∧
   (0≤r→10*((l.length:Int) - i)≤z - r∧∀j:Nat,i≤j→∀v:VV,l[j]?=some v.row→v.pt.length≤10000∧Sm v.fs):=by
  refine down l.length ?_ ?_
  ·intro z h1 h2
   refine⟨z,.succ ?_,h1,Int.le_refl _,fun _=>⟨by omega,fun j hj v hv=>absurd ((List.getElem?_eq_some_iff.1 hv).1) (by omega)⟩⟩
   simp only[L92_1,lenF,Int.lt_irrefl,if_false]
   exact .succ (by simp only[L92_2,Bool.false_eq_true,if_false];exact .ret)
  ·intro i hi ihd z h1 h2
   by_cases hz:0≤z
   ·obtain⟨v,hx,hm,hv⟩:=rowV h hi
    have hw:=iw (z:=z - 10) (by omega) (by omega)
    have fail:∀z14,∃r,Ev (fun n=>L92_3 n l (i:Int) v.nm v.fs v.pt z14 true) r∧r= -1:=fun z14=>⟨-1,.succ (by simp only[L92_3,if_true];exact .ret),rfl⟩
    have hsz:v.nm.size=(v.nm.data.toList).length:=(Array.length_toList (xs:=v.nm.data)).symm
    by_cases c1:z - 10<0
    ·refine⟨-1,.succ ?_,by omega,by omega,by omega⟩
     simp only[L92_1,lenF,if_pos (ilt hi),if_pos hz]
     refine .succ ?_
     simp only[L92_2,if_true,getF_nat hx,ds25,letF,hw,if_pos c1]
     exact .succ (by simp only[L92_3,if_true];exact .ret)
    by_cases c2:z - 10<(v.nm.size:Int)
    ·refine⟨-1,.succ ?_,by omega,by omega,by omega⟩
     simp only[L92_1,lenF,if_pos (ilt hi),if_pos hz]
     refine .succ ?_
     simp only[L92_2,if_true,getF_nat hx,ds25,letF,hw,if_neg c1,szF,if_pos c2]
     exact .succ (by simp only[L92_3,if_true];exact .ret)
    have hw2:=iw (z:=z - 10 - (v.nm.size:Int)) (by omega) (by omega)
    by_cases c3:z - 10 - (v.nm.size:Int)<(v.pt.length:Int)
    ·refine⟨-1,.succ ?_,by omega,by omega,by omega⟩
     simp only[L92_1,lenF,if_pos (ilt hi),if_pos hz]
     refine .succ ?_
     simp only[L92_2,if_true,getF_nat hx,ds25,letF,hw,if_neg c1,szF,if_neg c2,lenF,hw2,if_pos c3]
     exact .succ (by simp only[L92_3,if_true];exact .ret)
    have hw3:=iw (z:=z - 10 - (v.nm.size:Int) - (v.pt.length:Int)) (by omega) (by omega)
    obtain⟨y,e1,e2,e3,e4⟩:=ih v.fs (size_fs hm) hv.fs (z - 10 - (v.nm.size:Int) - (v.pt.length:Int)) (by omega) (by omega)
    obtain⟨r,k1,k2,k3,k4⟩:=ihd y (by omega) (by omega)
    refine⟨r,.succ ?_,k2,by omega,fun hr=>⟨?_,?_⟩⟩
    ·simp only[L92_1,lenF,if_pos (ilt hi),if_pos hz]
     refine .succ ?_
     simp only[L92_2,if_true,getF_nat hx,ds25,letF,hw,if_neg c1,szF,if_neg c2,lenF,hw2,if_neg c3]
     refine .succ ?_
     simp only[L92_3,Bool.false_eq_true,if_false,szF,letF,hw2,lenF,hw3]
     refine Ev.bO1 e1 ?_
     simp only[letF,wrap_succ hi h.1]
     exact k1
    ·have:=(k4 hr).1
     have:=(e4 (by omega)).2
     omega
    ·intro j hj w hw'
     by_cases e:j=i
     ·subst e
      rw[hx]at hw'
      obtain rfl:=row_inj (Option.some.inj hw')
      exact⟨by omega,(e4 (by omega)).1⟩
     ·exact (k4 hr).2 j (by omega) w hw'
   ·refine⟨z,.succ ?_,h1,Int.le_refl _,by omega⟩
    simp only[L92_1,lenF,if_pos (ilt hi),if_neg hz]
    exact .succ (by simp only[L92_2,Bool.false_eq_true,if_false];exact .ret)
 intro z h1 h2
 obtain⟨r,k1,k2,k3,k4⟩:=loop 0 (Nat.zero_le _) z h1 h2
 refine⟨r,.succ (by simp only[F92];exact k1),k2,by omega,fun hr=>?_⟩
 obtain⟨q1,q2⟩:=k4 hr
 refine⟨.mk (by omega) (fun v hv=>?_) (fun v hv=>?_),by omega⟩
 ·obtain⟨j,hj⟩:=List.getElem?_of_mem hv
  exact (q2 j (Nat.zero_le _) v hj).1
 ·obtain⟨j,hj⟩:=List.getElem?_of_mem hv
  exact (q2 j (Nat.zero_le _) v hj).2
theorem VT.rowS {v:VV}(h:VT v):RowS tab 49 v.row:=mk49 h.k h.i h.nm h.fs h.id h.pt
theorem Ev.nilF {l:List D}{A B:Nat→Option (List D)}{r:List D}(hB:Ev B r) (hA:l=[]→Ev A r):Ev (fun n=>nilF l (A n) (B n)) r:=by
 by_cases e:l=[]
 ·obtain⟨N,h1⟩:=hA e
  obtain⟨M,h2⟩:=hB
  refine⟨N+M,fun n hn=>?_⟩
  show AM.nilF l (A n) (B n)=some r
  rw[nilF_eq (fun _=>by rw[h1 n (by omega),h2 n (by omega)])]
  exact h2 n (by omega)
 ·obtain⟨M,h2⟩:=hB
  refine⟨M,fun n hn=>?_⟩
  show AM.nilF l (A n) (B n)=some r
  rw[nilF_eq (fun h=>absurd h e)]
  exact h2 n hn
theorem pt_scal {l:List D}(h:ListS tab 3 l):scalB l=true:=by
 obtain⟨q,rfl,_⟩:=intsS h
 unfold scalB
 rw[List.all_eq_true]
 intro x hx
 obtain⟨z,_,rfl⟩:=List.mem_map.1 hx
 rfl
theorem ev26 {l:List D}(h:ListS tab 3 l) (hl:l.length≤10000):Ev (fun n=>F141 n l) l:=by
 unfold F141
 refine Ev.nilF (.succ ?_) (fun e=>?_)
 ·have hM:10000<maxLen:=by decide
  simp only[L141_1,Bool.false_eq_true,if_false]
  rw[need_pos (pt_scal h)]
  unfold appF
  rw[if_pos (by simp only[List.length_nil];omega)]
  exact .ret
 ·subst e
  exact .succ (by simp only[L141_1,if_true];exact .ret)
theorem ev10L (l:List D):ListS tab 49 l→Sm l→∀(z1 z2:Int) (s3:ByteArray) (z5:Int) (l6:List D),ListS tab 3 l6→l6.length≤10000→Ev (fun n=>F95 n z1 z2 s3 l z5 l6) (z1,z2,s3,z5,l,l6):=by
 refine list_ind (P:=fun l=>ListS tab 49 l→Sm l→∀(z1 z2:Int) (s3:ByteArray) (z5:Int) (l6:List D),ListS tab 3 l6→l6.length≤10000→Ev (fun n=>F95 n z1 z2 s3 l z5 l6) (z1,z2,s3,z5,l,l6)) (fun l ih h hs z1 z2 s3 z5 l6 h6 h6'=>?_) l
 have hM:10000<maxLen:=by decide
 have hl:=hs.len
 have loop:∀i:Nat,i≤l.length→Ev (fun n=>L95_1 n z1 z2 s3 l z5 l6 (l.length:Int) (i:Int) (l.take i)) (z1,z2,s3,z5,l,l6):=by
  refine down l.length ?_ ?_
  ·refine .succ ?_
   simp only[L95_1,Int.lt_irrefl,if_false]
   refine .succ ?_
   simp only[L95_2,Bool.false_eq_true,if_false,List.take_length]
   exact Ev.bO1 (ev26 h6 h6') .ret
  ·intro i hi ihd
   obtain⟨v,hx,hm,hv⟩:=rowV h hi
   have ht:l.take (i+1)=l.take i++[v.row]:=by rw[List.take_add_one,hx];rfl
   refine .succ ?_
   simp only[L95_1,if_pos (ilt hi)]
   refine .succ ?_
   simp only[L95_2,if_true,getF_nat hx,ds25]
   refine Ev.bO6 (ih v.fs (size_fs hm) hv.fs (hs.fs hm) v.k v.i v.nm v.id v.pt hv.pt (hs.pt hm)) ?_
   have hb:(l.take i).length+[v.row].length≤maxLen∧((l.take i).length+[v.row].length)*88≤140737488355328:=by simp only[List.length_take,List.length_cons,List.length_nil];omega
   have ha:∀k:List D→Option (Int×Int×ByteArray×Int×List D×List D),appF 88 (l.take i) [.agg [.int .u8 v.k,.int .i64 v.i,.str v.nm,.list true 6 v.fs,.int .i64 v.id,.list false 1 v.pt]] k=k (l.take i++[v.row]):=fun k=>appF_ok hb
   simp only[ha,letF,wrap_succ hi h.1]
   rw[ht]at ihd
   exact ihd
 refine .succ ?_
 simp only[F95,lenF]
 exact loop 0 (Nat.zero_le _)
theorem ev10 {v:VV}(h:VS v):Ev (fun n=>F95 n v.k v.i v.nm v.fs v.id v.pt) (v.k,v.i,v.nm,v.id,v.fs,v.pt):=ev10L v.fs h.t.fs h.f _ _ _ _ _ h.t.pt h.p
theorem ev29f {z1 z2:Int}{s3:ByteArray}{l:List D}{z5:Int}{l6:List D}(h9:Ev (fun n=>F93 n l) l) (hl:l.length≤1000) (h6:ListS tab 3 l6) (h6':l6.length≤10000):
  Ev (fun n=>F29 n z1 z2 s3 l z5 l6) (z1,z2,s3,z5,l,l6):=by
 have hM:10000<maxLen:=by decide
 refine .succ ?_
 simp only[F29]
 refine Ev.bO1 h9 ?_
 have a1:∀k:List D→Option (Int×Int×ByteArray×Int×List D×List D),appF 88 ([]:List D) l k=k l:=fun k=>appF_ok (by simp only[List.length_nil];omega)
 have a2:∀k:List D→Option (Int×Int×ByteArray×Int×List D×List D),appF 8 ([]:List D) l6 k=k l6:=fun k=>appF_ok (by simp only[List.length_nil];omega)
 simp only[a1,a2,need_pos (pt_scal h6)]
 exact .ret
theorem ev93 (l:List D):ListS tab 49 l→Sm l→Ev (fun n=>F93 n l) l:=by
 refine list_ind (P:=fun l=>ListS tab 49 l→Sm l→Ev (fun n=>F93 n l) l) (fun l ih h hs=>?_) l
 have hM:10000<maxLen:=by decide
 have hl:=hs.len
 have loop:∀i:Nat,i≤l.length→Ev (fun n=>L93_1 n l (i:Int) (l.take i)) l:=by
  refine down l.length ?_ ?_
  ·refine .succ ?_
   simp only[L93_1,lenF,Int.lt_irrefl,if_false]
   refine .succ ?_
   simp only[L93_2,Bool.false_eq_true,if_false,List.take_length]
   exact .ret
  ·intro i hi ihd
   obtain⟨v,hx,hm,hv⟩:=rowV h hi
   have ht:l.take (i+1)=l.take i++[v.row]:=by rw[List.take_add_one,hx];rfl
   refine .succ ?_
   simp only[L93_1,lenF,if_pos (ilt hi)]
   refine .succ ?_
   simp only[L93_2,if_true,getF_nat hx,ds25]
   refine Ev.bO6 (ev29f (ih v.fs (size_fs hm) hv.fs (hs.fs hm)) (hs.fs hm).len hv.pt (hs.pt hm)) ?_
   have hb:(l.take i).length+[v.row].length≤maxLen∧((l.take i).length+[v.row].length)*88≤140737488355328:=by simp only[List.length_take,List.length_cons,List.length_nil];omega
   have ha:∀k:List D→Option (List D),appF 88 (l.take i) [.agg [.int .u8 v.k,.int .i64 v.i,.str v.nm,.list true 6 v.fs,.int .i64 v.id,.list false 1 v.pt]] k=k (l.take i++[v.row]):=fun k=>appF_ok hb
   simp only[ha,letF,wrap_succ hi h.1]
   rw[ht]at ihd
   exact ihd
 refine .succ ?_
 simp only[F93]
 exact loop 0 (Nat.zero_le _)
theorem ev29 {v:VV}(h:VS v):Ev (fun n=>F29 n v.k v.i v.nm v.fs v.id v.pt) (v.k,v.i,v.nm,v.id,v.fs,v.pt):=ev29f (ev93 v.fs h.t.fs h.f) h.f.len h.t.pt h.p
theorem ints_ev {q q':List Int}(h:q.length≤maxLen):Ev (fun n=>F98 n (pD q) (pD q')) (decide (q=q')):=by
 unfold F98
 simp only[lenF,List.length_map]
 by_cases e:q.length=q'.length
 ·simp only[if_pos (show (q.length:Int)=(q'.length:Int)by omega)]
  refine .succ ?_
  simp only[L98_1,Bool.false_eq_true,if_false]
  have loop:∀i:Nat,i≤q.length→Ev (fun n=>L98_2 n (pD q) (pD q') (i:Int)) (decide (q.drop i=q'.drop i)):=by
   refine down _ ?_ (fun i hi ih=>?_)
   ·refine .succ ?_
    simp only[L98_2,lenF,List.length_map,Int.lt_irrefl,if_false]
    rw[List.drop_length,e,List.drop_length,decide_eq_true rfl]
    exact .succ (by simp only[L98_3,Bool.false_eq_true,if_false];exact .ret)
   ·have hi':i<q'.length:=by omega
    have h1:(pD q)[i]?=some (.int .i64 q[i]):=by simp[hi]
    have h2:(pD q')[i]?=some (.int .i64 q'[i]):=by simp[hi']
    have d1:=List.drop_eq_getElem_cons hi
    have d2:=List.drop_eq_getElem_cons hi'
    refine .succ ?_
    simp only[L98_2,lenF,List.length_map,if_pos (ilt hi)]
    refine .succ ?_
    simp only[L98_3,if_true,getF_nat h1,getF_nat h2,ds_i64]
    by_cases c:q[i]=q'[i]
    ·simp only[if_pos c]
     refine .succ ?_
     simp only[L98_4,Bool.false_eq_true,if_false,letF,wrap_succ hi h]
     have:decide (q.drop i=q'.drop i)=decide (q.drop (i+1)=q'.drop (i+1)):=by
      rw[d1,d2,c];exact decide_eq_decide.2 ⟨fun h=>(List.cons.inj h).2,fun h=>by rw[h]⟩
     rw[this]
     exact ih
    ·simp only[if_neg c]
     rw[decide_eq_false (by rw[d1,d2];intro h;exact c (List.cons.inj h).1)]
     exact .succ (by simp only[L98_4,if_true];exact .ret)
  have:=loop 0 (Nat.zero_le _)
  simpa using this
 ·simp only[if_neg (show ¬(q.length:Int)=(q'.length:Int)by omega)]
  rw[decide_eq_false (fun h=>e (congrArg _ h))]
  exact .succ (by simp only[L98_1,if_true];exact .ret)
theorem pD_inj {q q':List Int}(h:pD q=pD q'):q=q':=by
 induction q generalizing q' with
 | nil=>cases q'<;>simp_all
 | cons a q ih=>
  cases q' with
  | nil=>simp at h
  | cons b q'=>
   simp only[List.map_cons,List.cons.injEq,D.int.injEq,true_and]at h
   rw[h.1,ih h.2]
open Classical in
theorem same_of (v w:VV) (hv:VT v) (hw:VT w) (hfs:Ev (fun n=>F48 n v.fs w.fs) (decide (v.fs=w.fs))):
  Ev (fun n=>F34 n v.k v.i v.nm v.fs v.id v.pt w.k w.i w.nm w.fs w.id w.pt) (decide (v=w)):=by
 have no:v≠w→Ev (fun _=>some false) (decide (v=w)):=fun h=>by rw[decide_eq_false h];exact .ret
 refine .succ ?_
 simp only[F34]
 by_cases c1:v.k=w.k
 rotate_left
 ·simp only[if_neg c1];exact no (fun h=>c1 (by rw[h]))
 by_cases c2:v.i=w.i
 rotate_left
 ·simp only[if_pos c1,if_neg c2];exact no (fun h=>c2 (by rw[h]))
 by_cases c3:v.nm=w.nm
 rotate_left
 ·simp only[if_pos c1,if_pos c2,if_neg c3];exact no (fun h=>c3 (by rw[h]))
 by_cases c4:v.id=w.id
 rotate_left
 ·simp only[if_pos c1,if_pos c2,if_pos c3,if_neg c4];exact no (fun h=>c4 (by rw[h]))
 simp only[if_pos c1,if_pos c2,if_pos c3,if_pos c4]
 obtain⟨q,e1,_⟩:=intsS hv.pt
 obtain⟨q',e2,_⟩:=intsS hw.pt
 have hq:q.length≤maxLen:=by have:=hv.pt.1;rw[e1]at this;simpa using this
 rw[e1,e2]
 refine Ev.bO1 (ints_ev hq) ?_
 by_cases c5:q=q'
 rotate_left
 ·simp only[decide_eq_false c5,Bool.false_eq_true,if_false]
  exact no (fun h=>c5 (pD_inj (e1.symm.trans ((congrArg VV.pt h).trans e2))))
 simp only[decide_eq_true c5,if_true]
 refine Ev.bO1 hfs ?_
 have:decide (v.fs=w.fs)=decide (v=w):=by
  refine decide_eq_decide.2 ⟨fun h=>?_,fun h=>by rw[h]⟩
  have e3:v.pt=w.pt:=by rw[e1,e2,c5]
  obtain⟨a,b,c,d,e,f⟩:=v
  obtain⟨a',b',c',d',e',f'⟩:=w
  simp only[VV.mk.injEq]
  exact⟨c1,c2,c3,h,c4,e3⟩
 rw[this]
 exact .ret
open Classical in
theorem sameL (l:List D):∀m,ListS tab 49 l→ListS tab 49 m→Ev (fun n=>F48 n l m) (decide (l=m)):=by
 refine list_ind (P:=fun l=>∀m,ListS tab 49 l→ListS tab 49 m→Ev (fun n=>F48 n l m) (decide (l=m))) (fun l ih m h hm=>?_) l
 refine .succ ?_
 simp only[F48,lenF]
 by_cases e:l.length=m.length
 rotate_left
 ·simp only[if_neg (show ¬(l.length:Int)=(m.length:Int)by omega)]
  rw[decide_eq_false (fun h=>e (congrArg _ h))]
  exact .succ (by simp only[L48_1,if_true];exact .ret)
 simp only[if_pos (show (l.length:Int)=(m.length:Int)by omega)]
 refine .succ ?_
 simp only[L48_1,Bool.false_eq_true,if_false]
 have loop:∀i:Nat,i≤l.length→Ev (fun n=>L48_2 n l m (i:Int)) (decide (l.drop i=m.drop i)):=by
  refine down _ ?_ (fun i hi ihd=>?_)
  ·refine .succ ?_
   simp only[L48_2,lenF,Int.lt_irrefl,if_false]
   rw[List.drop_length,e,List.drop_length,decide_eq_true rfl]
   exact .succ (by simp only[L48_3,Bool.false_eq_true,if_false];exact .ret)
  ·have hi':i<m.length:=by omega
   obtain⟨v,hx,hvm,hv⟩:=rowV h hi
   obtain⟨w,hy,hwm,hw⟩:=rowV hm hi'
   have d1:l.drop i=v.row::l.drop (i+1):=by
    rw[List.drop_eq_getElem_cons hi];congr 1
    rw[List.getElem?_eq_getElem hi]at hx;exact Option.some.inj hx
   have d2:m.drop i=w.row::m.drop (i+1):=by
    rw[List.drop_eq_getElem_cons hi'];congr 1
    rw[List.getElem?_eq_getElem hi']at hy;exact Option.some.inj hy
   refine .succ ?_
   simp only[L48_2,lenF,if_pos (ilt hi)]
   refine .succ ?_
   simp only[L48_3,if_true,getF_nat hx,getF_nat hy,ds25]
   refine Ev.bO1 (same_of v w hv hw (ih v.fs (size_fs hvm) w.fs hv.fs hw.fs)) ?_
   by_cases c:v=w
   ·simp only[decide_eq_true c,letB,Bool.not_true,Bool.false_eq_true,if_false,letF,wrap_succ hi h.1]
    have:decide (l.drop i=m.drop i)=decide (l.drop (i+1)=m.drop (i+1)):=by
     rw[d1,d2,c];exact decide_eq_decide.2 ⟨fun h=>(List.cons.inj h).2,fun h=>by rw[h]⟩
    rw[this]
    exact ihd
   ·simp only[decide_eq_false c,letB,Bool.not_false,if_true]
    rw[decide_eq_false (by rw[d1,d2];intro h;exact c (row_inj (List.cons.inj h).1))]
    exact .ret
 have:=loop 0 (Nat.zero_le _)
 simpa using this
open Classical in
theorem ev11 {v w:VV}(hv:VT v) (hw:VT w):Ev (fun n=>F34 n v.k v.i v.nm v.fs v.id v.pt w.k w.i w.nm w.fs w.id w.pt) (decide (v=w)):=
 same_of v w hv hw (sameL v.fs w.fs hv.fs hw.fs)
end Go.Proofs.Ytiiojajgajnhpaa
end
set_option linter.unusedVariables false
noncomputable section
namespace Go.Proofs.Ytiiojajgajnhpaa
open Go Go.AM
def F99 (n:Nat) (z1:Int) (pm2:List PRow):Option ((((List PRow)×Nat×Int×Int×Int×List D) ⊕ ((List PRow)))):=
 (findPF z1 pm2 (fun u3 l4 l5=>dl_w0 l4 fun z7 z8 z9=>some (.inl (pm2,u3,z7,z8,z9,l5))) (some (.inr pm2)))
theorem T99 (n:Nat):∀⦃z1:Int⦄ ⦃pm2:List PRow⦄ ⦃r:(((List PRow)×Nat×Int×Int×Int×List D) ⊕ ((List PRow)))⦄,F99 n z1 pm2=some r→∀Q:AV→List AObj→List AObj→Prop,(match r with | .inl (r1,r2,r3,r4,r5,r6)=>Q (.v (.c (.ptr (.loc 0) 0))) [.cells [.ow (.ext 1)],.pmap 3 6 8 r1 (some (r2,.loc 0))] [.arr [.d (.int .i64 r3),.d (.int .i64 r4),.d (.int .i64 r5)] true 6 r6 []] | .inr r1=>Q (.v (.c (.nilp))) [.cells [.ow (.ext 1)],.pmap 3 6 8 r1 none] [])→
    TripK Try.prog inv 99 [.c (.ptr (.ext 0) 0),.d (.int .i64 z1)] [.cells [.ow (.ext 1)],.pmap 3 6 8 pm2 none] Q:=by
 intro z1 pm2 r h Q hQ
 unfold F99 at h
 refine TripK.of tab_ok tab_one fol Try.func99 rfl (by kernel_rfl) rfl rfl rfl (fun M hM hI=>?_)
 try cbv
 refine seq_go ?_
 try cbv
 refine seq_go ?_
 try cbv
 refine seq_go ?_
 try cbv
 refine seq_go ?_
 try cbv
 replace h:=findPF_inv h
 rcases h with⟨u3,key6,l4,l5,hz,h⟩ | ⟨hz,h⟩
 ·replace h:=dl_w0_inv h
  obtain⟨z7,z8,z9,rfl,h⟩:=h
  refine⟨some (u3,key6,_,l5),(M.lock_iff _).2 hz,?_⟩
  clear hz
  try cbv
  obtain rfl:=Option.some.inj h
  refine finQ_go hQ ?_
  try cbv
  exact⟨[.loc 256],rfl,rfl,⟨rfl,⟨rfl,trivial⟩⟩,⟨rfl,trivial⟩,trivial⟩
 refine⟨none,(M.lock_iff _).2 hz,?_⟩
 clear hz
 try cbv
 obtain rfl:=Option.some.inj h
 refine finQ_go hQ ?_
 try cbv
 exact⟨[],rfl,rfl,⟨rfl,⟨rfl,trivial⟩⟩,trivial,trivial⟩
def L37_1:Nat→Int→Int→Bool→(List PRow)→Option ((List PRow))
 | 0,_,_,_,_=>none
 | n+1,z1,z2,b14,pm15=>
  (if b14=true then some pm15 else putPF z1 [.int .i64 z2,.int .i64 0,.int .i64 0] [.agg [.int .u8 0,.int .i64 0,.str ByteArray.empty,.list true 6 [],.int .i64 0,.list false 1 []],.agg [.int .u8 0,.int .i64 0,.str ByteArray.empty,.list true 6 [],.int .i64 0,.list false 1 []],.agg [.int .u8 0,.int .i64 0,.str ByteArray.empty,.list true 6 [],.int .i64 0,.list false 1 []],.agg [.int .u8 0,.int .i64 0,.str ByteArray.empty,.list true 6 [],.int .i64 0,.list false 1 []],.agg [.int .u8 0,.int .i64 0,.str ByteArray.empty,.list true 6 [],.int .i64 0,.list false 1 []],.agg [.int .u8 0,.int .i64 0,.str ByteArray.empty,.list true 6 [],.int .i64 0,.list false 1 []],.agg [.int .u8 0,.int .i64 0,.str ByteArray.empty,.list true 6 [],.int .i64 0,.list false 1 []],.agg [.int .u8 0,.int .i64 0,.str ByteArray.empty,.list true 6 [],.int .i64 0,.list false 1 []]] pm15 fun pm16=>some pm16)
def F37 (n:Nat) (z1:Int) (z2:Int) (pm3:List PRow):Option ((List PRow)):=
 bS (F99 n z1 pm3) (fun p11=>bO6 (some p11) fun pm4 u5 z6 z7 z8 l9=>setPF pm4 u5 [.int .i64 z6,.int .i64 z7,.int .i64 z8] l9 fun pm13=>L37_1 n z1 z2 true pm13) (fun pm10=>(if z2<(1:Int)then L37_1 n z1 z2 true pm10 else (if (8:Int)<z2 then L37_1 n z1 z2 true pm10 else L37_1 n z1 z2 false pm10)))
theorem T37 (n:Nat):∀⦃z1:Int⦄ ⦃z2:Int⦄ ⦃pm3:List PRow⦄ ⦃r1:List PRow⦄,F37 n z1 z2 pm3=some r1→
    Trip Try.prog inv 37 [.c (.ptr (.ext 0) 0),.d (.int .i64 z1),.d (.int .i64 z2)] [.cells [.ow (.ext 1)],.pmap 3 6 8 pm3 none] (.t []) [.cells [.ow (.ext 1)],.pmap 3 6 8 r1 none] []:=by
 intro z1 z2 pm3 r1 h
 unfold F37 at h
 refine Trip.of tab_ok tab_one fol Try.func37 rfl (by kernel_rfl) rfl rfl rfl (fun M hM hI=>?_)
 try cbv
 refine seq_go ?_
 try cbv
 refine seq_join (T:=Nat×Bool×(List PRow)) (fun t=>⟨[(0,.v (.c (.ptr (.ext 0) 0))),(1,.v (.d (.int .i64 z1))),(2,.v (.d (.int .i64 z2))),(28,.v (.d (.bool t.2.1)))],[(.ext 0,.cells [.ow (.ext 1)]),(.ext 1,.pmap 3 6 8 t.2.2 none)],736⟩) (fun t=>t.1≤n∧L37_1 t.1 z1 z2 t.2.1 t.2.2=some r1) ?_ ?_
 rotate_left
 ·clear h
  rintro⟨m1,b14,pm15⟩ ⟨hm1,h⟩
  replace hm1:m1≤n:=hm1
  obtain _ | m1:=m1
  ·replace h:L37_1 0 z1 z2 b14 pm15=some r1:=h
   rw[L37_1]at h
   cases h
  replace h:L37_1 (m1+1) z1 z2 b14 pm15=some r1:=h
  rw[L37_1]at h
  try cbv
  cases b14
  ·replace h:=ite_f Bool.false_ne_true h
   try cbv
   replace h:=putPF_inv h
   obtain⟨pm16,hn,hz,h⟩:=h
   refine⟨(M.lock_iff _).2 hn,pm16,hz,?_⟩
   clear hn hz
   try cbv
   obtain rfl:=Option.some.inj h
   refine fin_go ?_
   try cbv
   exact⟨[],rfl,rfl,⟨rfl,⟨rfl,trivial⟩⟩,trivial,trivial⟩
  replace h:=ite_t rfl h
  try cbv
  obtain rfl:=Option.some.inj h
  refine fin_go ?_
  try cbv
  exact⟨[],rfl,rfl,⟨rfl,⟨rfl,trivial⟩⟩,trivial,trivial⟩
 try cbv
 replace h:=bS_inv h
 rcases h with⟨p11,hr,h⟩ | ⟨pm10,hr,h⟩
 ·replace h:=bO6_inv h
  obtain⟨pm4,u5,z6,z7,z8,l9,hp,h⟩:=h
  obtain rfl:=Option.some.inj hp
  clear hp
  refine call_go rfl rfl ?_
  try cbv
  refine call_with hM hI [.ext 0,.ext 1] (T99 _ hr (fun r p n=>r= .v (.c (.ptr (.loc 0) 0))∧p=[.cells [.ow (.ext 1)],.pmap 3 6 8 pm4 (some (u5,.loc 0))]∧n=[.arr [.d (.int .i64 z6),.d (.int .i64 z7),.d (.int .i64 z8)] true 6 l9 []]) ⟨rfl,rfl,rfl⟩:Trip _ _ _ _ _ (.v (.c (.ptr (.loc 0) 0))) [.cells [.ow (.ext 1)],.pmap 3 6 8 pm4 (some (u5,.loc 0))] [.arr [.d (.int .i64 z6),.d (.int .i64 z7),.d (.int .i64 z8)] true 6 l9 []]) rfl (by simp) ⟨rfl,⟨rfl,trivial⟩⟩ ⟨trivial,⟨trivial,trivial⟩⟩ (by simp) ?_
  clear hr
  try cbv
  replace h:=setPF_inv h
  obtain⟨pm13,hpm13,h⟩:=h
  refine join_nextG (n,(true,pm13)) [.closeP (.ext 1)] [] [0,1,2,28] [.ext 0,.ext 1] 736 ⟨by omega,h⟩ ?_
  try cbv
  refine⟨pm13,hpm13,?_⟩
  clear hpm13
  try cbv
  first | done | exact rfl | cbv
 refine call_go rfl rfl ?_
 try cbv
 refine call_with hM hI [.ext 0,.ext 1] (T99 _ hr (fun r p n=>r= .v (.c (.nilp))∧p=[.cells [.ow (.ext 1)],.pmap 3 6 8 pm10 none]∧n=[]) ⟨rfl,rfl,rfl⟩:Trip _ _ _ _ _ (.v (.c (.nilp))) [.cells [.ow (.ext 1)],.pmap 3 6 8 pm10 none] []) rfl (by simp) ⟨rfl,⟨rfl,trivial⟩⟩ ⟨trivial,⟨trivial,trivial⟩⟩ (by simp) ?_
 clear hr
 try cbv
 refine splitL (fun e=>?_) (fun e=>?_)
 ·replace h:=ite_t e h
  clear e
  try cbv
  exact join_next (n,(true,pm10)) [0,1,2,28] [.ext 0,.ext 1] 736 ⟨by omega,h⟩ (by cbv)
 replace h:=ite_f (Int.not_lt.2 e) h
 clear e
 try cbv
 refine splitL (fun e=>?_) (fun e=>?_)
 ·replace h:=ite_t e h
  clear e
  try cbv
  exact join_next (n,(true,pm10)) [0,1,2,28] [.ext 0,.ext 1] 736 ⟨by omega,h⟩ (by cbv)
 replace h:=ite_f (Int.not_lt.2 e) h
 clear e
 try cbv
 exact join_next (n,(false,pm10)) [0,1,2,28] [.ext 0,.ext 1] 736 ⟨by omega,h⟩ (by cbv)
def F100 (n:Nat) (z1:Int) (z2:Int) (z3:Int) (l4:List D):Option (Int×Int×ByteArray×List D×Int×List D×Int×Int×Int×List D):=
 needF (0≤z2∧z2<8) (getN l4 (z2.toNat) fun x5=>ds_t49 x5 fun z6 z7 s8 l9 z10 l11=>needF (0≤z2∧z2<8) (setNF l4 (z2.toNat) (.agg [.int .u8 0,.int .i64 0,.str ByteArray.empty,.list true 6 [],.int .i64 0,.list false 1 []]) fun l12=>letF (IntKind.wrap .i64 (z2+1)) fun z13=>needF ((8:Int)≠0) (letF (Int.tmod z13 8) fun z14=>letF (IntKind.wrap .i64 (z3 - 1)) fun z15=>some (z6,z7,s8,l9,z10,l11,z1,z14,z15,l12))))
theorem T100 (n:Nat):∀⦃z1:Int⦄ ⦃z2:Int⦄ ⦃z3:Int⦄ ⦃l4:List D⦄ ⦃r1:Int⦄ ⦃r2:Int⦄ ⦃r3:ByteArray⦄ ⦃r4:List D⦄ ⦃r5:Int⦄ ⦃r6:List D⦄ ⦃r7:Int⦄ ⦃r8:Int⦄ ⦃r9:Int⦄ ⦃r10:List D⦄,F100 n z1 z2 z3 l4=some (r1,r2,r3,r4,r5,r6,r7,r8,r9,r10)→
    Trip Try.prog inv 100 [.c (.ptr (.ext 0) 0)] [.arr [.d (.int .i64 z1),.d (.int .i64 z2),.d (.int .i64 z3)] true 6 l4 []] (.v (.d (.agg [.int .u8 r1,.int .i64 r2,.str r3,.list true 6 r4,.int .i64 r5,.list false 1 r6]))) [.arr [.d (.int .i64 r7),.d (.int .i64 r8),.d (.int .i64 r9)] true 6 r10 []] []:=by
 intro z1 z2 z3 l4 r1 r2 r3 r4 r5 r6 r7 r8 r9 r10 h
 unfold F100 at h
 refine Trip.of tab_ok tab_one fol Try.func100 rfl (by kernel_rfl) rfl rfl rfl (fun M hM hI=>?_)
 try cbv
 refine seq_go ?_
 try cbv
 refine seq_go ?_
 try cbv
 replace h:=needF_inv h
 obtain⟨hn,h⟩:=h
 refine⟨hn.1,hn.2,false,?_⟩
 clear hn
 try cbv
 replace h:=getN_inv h
 obtain⟨x5,hx,h⟩:=h
 replace h:=ds_t49_inv h
 obtain⟨z6,z7,s8,l9,z10,l11,rfl,h⟩:=h
 refine⟨_,hx,?_⟩
 clear hx
 try cbv
 refine drawn ?_ ?_
 ·show _=true
  kernel_rfl
 try cbv
 refine seq_go ?_
 try cbv
 replace h:=needF_inv h
 obtain⟨hn,h⟩:=h
 refine⟨hn.1,hn.2,false,?_⟩
 clear hn
 try cbv
 replace h:=setNF_inv h
 obtain⟨l12,hb,hz,h⟩:=h
 refine⟨(M.lock_iff _).2 hb,l12,hz,?_⟩
 clear hb hz
 try cbv
 refine drawn ?_ ?_
 ·show _=true
  kernel_rfl
 try cbv
 refine seq_go ?_
 try cbv
 replace h:=letF_inv h
 obtain⟨z13,hz,h⟩:=h
 refine⟨z13,hz,?_⟩
 clear hz
 try cbv
 replace h:=needF_inv h
 obtain⟨hn,h⟩:=h
 replace h:=letF_inv h
 obtain⟨z14,hz,h⟩:=h
 refine⟨z14,hn,hz,?_⟩
 clear hn hz
 try cbv
 refine seq_go ?_
 try cbv
 replace h:=letF_inv h
 obtain⟨z15,hz,h⟩:=h
 refine⟨z15,hz,?_⟩
 clear hz
 try cbv
 refine seq_go ?_
 try cbv
 obtain⟨rfl,rfl,rfl,rfl,rfl,rfl,rfl,rfl,rfl,rfl⟩:=inj10 h
 refine fin_go ?_
 try cbv
 exact⟨[],rfl,rfl,⟨rfl,trivial⟩,trivial,trivial⟩
def F41 (n:Nat) (z1:Int) (pm2:List PRow):Option (Bool×(List PRow)):=
 bS (F99 n z1 pm2) (fun p10=>bO6 (some p10) fun pm3 u4 z5 z6 z7 l8=>(if z7=(0:Int)then setPF pm3 u4 [.int .i64 z5,.int .i64 z6,.int .i64 z7] l8 fun pm13=>some (true,pm13)else setPF pm3 u4 [.int .i64 z5,.int .i64 z6,.int .i64 z7] l8 fun pm14=>some (false,pm14))) (fun pm9=>some (true,pm9))
theorem T41 (n:Nat):∀⦃z1:Int⦄ ⦃pm2:List PRow⦄ ⦃r1:Bool⦄ ⦃r2:List PRow⦄,F41 n z1 pm2=some (r1,r2)→
    Trip Try.prog inv 41 [.c (.ptr (.ext 0) 0),.d (.int .i64 z1)] [.cells [.ow (.ext 1)],.pmap 3 6 8 pm2 none] (.v (.d (.bool r1))) [.cells [.ow (.ext 1)],.pmap 3 6 8 r2 none] []:=by
 intro z1 pm2 r1 r2 h
 unfold F41 at h
 refine Trip.of tab_ok tab_one fol Try.func41 rfl (by kernel_rfl) rfl rfl rfl (fun M hM hI=>?_)
 try cbv
 refine seq_go ?_
 try cbv
 refine seq_go ?_
 try cbv
 replace h:=bS_inv h
 rcases h with⟨p10,hr,h⟩ | ⟨pm9,hr,h⟩
 rotate_left
 ·refine call_go rfl rfl ?_
  try cbv
  refine call_with hM hI [.ext 0,.ext 1] (T99 _ hr (fun r p n=>r= .v (.c (.nilp))∧p=[.cells [.ow (.ext 1)],.pmap 3 6 8 pm9 none]∧n=[]) ⟨rfl,rfl,rfl⟩:Trip _ _ _ _ _ (.v (.c (.nilp))) [.cells [.ow (.ext 1)],.pmap 3 6 8 pm9 none] []) rfl (by simp) ⟨rfl,⟨rfl,trivial⟩⟩ ⟨trivial,⟨trivial,trivial⟩⟩ (by simp) ?_
  clear hr
  try cbv
  refine seq_go ?_
  try cbv
  obtain⟨rfl,rfl⟩:=inj2 h
  refine fin_go ?_
  try cbv
  exact⟨[],rfl,rfl,⟨rfl,⟨rfl,trivial⟩⟩,trivial,trivial⟩
 replace h:=bO6_inv h
 obtain⟨pm3,u4,z5,z6,z7,l8,hp,h⟩:=h
 obtain rfl:=Option.some.inj hp
 clear hp
 refine call_go rfl rfl ?_
 try cbv
 refine call_with hM hI [.ext 0,.ext 1] (T99 _ hr (fun r p n=>r= .v (.c (.ptr (.loc 0) 0))∧p=[.cells [.ow (.ext 1)],.pmap 3 6 8 pm3 (some (u4,.loc 0))]∧n=[.arr [.d (.int .i64 z5),.d (.int .i64 z6),.d (.int .i64 z7)] true 6 l8 []]) ⟨rfl,rfl,rfl⟩:Trip _ _ _ _ _ (.v (.c (.ptr (.loc 0) 0))) [.cells [.ow (.ext 1)],.pmap 3 6 8 pm3 (some (u4,.loc 0))] [.arr [.d (.int .i64 z5),.d (.int .i64 z6),.d (.int .i64 z7)] true 6 l8 []]) rfl (by simp) ⟨rfl,⟨rfl,trivial⟩⟩ ⟨trivial,⟨trivial,trivial⟩⟩ (by simp) ?_
 clear hr
 try cbv
 refine seq_go ?_
 try cbv
 refine splitI (fun e=>?_) (fun e=>?_)
 ·replace h:=ite_t e h
  clear e
  try cbv
  replace h:=setPF_inv h
  obtain⟨pm13,hpm13,h⟩:=h
  obtain⟨rfl,rfl⟩:=inj2 h
  refine⟨_,_,_,⟨rfl,rfl,rfl⟩,[.closeP (.ext 1)],?_⟩
  try cbv
  refine⟨pm13,hpm13,?_⟩
  clear hpm13
  try cbv
  exact⟨[],rfl,rfl,⟨rfl,⟨rfl,trivial⟩⟩,trivial,trivial⟩
 replace h:=ite_f e h
 clear e
 try cbv
 replace h:=setPF_inv h
 obtain⟨pm14,hpm14,h⟩:=h
 obtain⟨rfl,rfl⟩:=inj2 h
 refine⟨_,_,_,⟨rfl,rfl,rfl⟩,[.closeP (.ext 1)],?_⟩
 try cbv
 refine⟨pm14,hpm14,?_⟩
 clear hpm14
 try cbv
 exact⟨[],rfl,rfl,⟨rfl,⟨rfl,trivial⟩⟩,trivial,trivial⟩
def F38 (n:Nat) (z1:Int) (pm2:List PRow):Option (Int×Int×ByteArray×List D×Int×List D×Bool×(List PRow)):=
 bO2 (F41 n z1 pm2) fun b3 pm4=>(if b3=true then some ((0:Int),(0:Int),ByteArray.empty,([]:List D),(0:Int),([]:List D),false,pm4)else bS (F99 n z1 pm4) (fun p22=>bO6 (some p22) fun pm5 u6 z7 z8 z9 l10=>bO10 (F100 n z7 z8 z9 l10) fun z11 z12 s13 l14 z15 l16 z17 z18 z19 l20=>setPF pm5 u6 [.int .i64 z17,.int .i64 z18,.int .i64 z19] l20 fun pm24=>some (z11,z12,s13,l14,z15,l16,true,pm24)) (fun pm21=>none))
theorem T38 (n:Nat):∀⦃z1:Int⦄ ⦃pm2:List PRow⦄ ⦃r1:Int⦄ ⦃r2:Int⦄ ⦃r3:ByteArray⦄ ⦃r4:List D⦄ ⦃r5:Int⦄ ⦃r6:List D⦄ ⦃r7:Bool⦄ ⦃r8:List PRow⦄,F38 n z1 pm2=some (r1,r2,r3,r4,r5,r6,r7,r8)→
    Trip Try.prog inv 38 [.c (.ptr (.ext 0) 0),.d (.int .i64 z1)] [.cells [.ow (.ext 1)],.pmap 3 6 8 pm2 none] (.t [.d (.agg [.int .u8 r1,.int .i64 r2,.str r3,.list true 6 r4,.int .i64 r5,.list false 1 r6]),.d (.bool r7)]) [.cells [.ow (.ext 1)],.pmap 3 6 8 r8 none] []:=by
 intro z1 pm2 r1 r2 r3 r4 r5 r6 r7 r8 h
 unfold F38 at h
 refine Trip.of tab_ok tab_one fol Try.func38 rfl (by kernel_rfl) rfl rfl rfl (fun M hM hI=>?_)
 try cbv
 refine seq_go ?_
 try cbv
 refine seq_go ?_
 try cbv
 refine seq_go ?_
 try cbv
 replace h:=bO2_inv h
 obtain⟨b3,pm4,hr,h⟩:=h
 refine call_go rfl rfl ?_
 try cbv
 refine call_with hM hI [.ext 0,.ext 1] (T41 _ hr) rfl (by simp) ⟨rfl,⟨rfl,trivial⟩⟩ ⟨trivial,⟨trivial,trivial⟩⟩ (by simp) ?_
 clear hr
 try cbv
 cases b3
 rotate_left
 ·replace h:=ite_t rfl h
  try cbv
  refine seq_go ?_
  try cbv
  obtain⟨rfl,rfl,rfl,rfl,rfl,rfl,rfl,rfl⟩:=inj8 h
  refine fin_go ?_
  try cbv
  exact⟨[],rfl,rfl,⟨rfl,⟨rfl,trivial⟩⟩,trivial,trivial⟩
 replace h:=ite_f Bool.false_ne_true h
 try cbv
 refine seq_go ?_
 try cbv
 replace h:=bS_inv h
 rcases h with⟨p22,hr,h⟩ | ⟨pm21,hr,h⟩
 rotate_left
 ·refine call_go rfl rfl ?_
  try cbv
  refine call_with hM hI [.ext 0,.ext 1] (T99 _ hr (fun r p n=>r= .v (.c (.nilp))∧p=[.cells [.ow (.ext 1)],.pmap 3 6 8 pm21 none]∧n=[]) ⟨rfl,rfl,rfl⟩:Trip _ _ _ _ _ (.v (.c (.nilp))) [.cells [.ow (.ext 1)],.pmap 3 6 8 pm21 none] []) rfl (by simp) ⟨rfl,⟨rfl,trivial⟩⟩ ⟨trivial,⟨trivial,trivial⟩⟩ (by simp) ?_
  clear hr
  try cbv
  cases h
 replace h:=bO6_inv h
 obtain⟨pm5,u6,z7,z8,z9,l10,hp,h⟩:=h
 obtain rfl:=Option.some.inj hp
 clear hp
 refine call_go rfl rfl ?_
 try cbv
 refine call_with hM hI [.ext 0,.ext 1] (T99 _ hr (fun r p n=>r= .v (.c (.ptr (.loc 0) 0))∧p=[.cells [.ow (.ext 1)],.pmap 3 6 8 pm5 (some (u6,.loc 0))]∧n=[.arr [.d (.int .i64 z7),.d (.int .i64 z8),.d (.int .i64 z9)] true 6 l10 []]) ⟨rfl,rfl,rfl⟩:Trip _ _ _ _ _ (.v (.c (.ptr (.loc 0) 0))) [.cells [.ow (.ext 1)],.pmap 3 6 8 pm5 (some (u6,.loc 0))] [.arr [.d (.int .i64 z7),.d (.int .i64 z8),.d (.int .i64 z9)] true 6 l10 []]) rfl (by simp) ⟨rfl,⟨rfl,trivial⟩⟩ ⟨trivial,⟨trivial,trivial⟩⟩ (by simp) ?_
 clear hr
 try cbv
 replace h:=bO10_inv h
 obtain⟨z11,z12,s13,l14,z15,l16,z17,z18,z19,l20,hr,h⟩:=h
 refine call_go rfl rfl ?_
 try cbv
 refine call_with hM hI [.loc 224] (T100 _ hr) rfl (by simp) ⟨rfl,trivial⟩ ⟨trivial,trivial⟩ (by simp) ?_
 clear hr
 try cbv
 replace h:=setPF_inv h
 obtain⟨pm24,hpm24,h⟩:=h
 obtain⟨rfl,rfl,rfl,rfl,rfl,rfl,rfl,rfl⟩:=inj8 h
 refine⟨_,_,_,⟨rfl,rfl,rfl⟩,[.closeP (.ext 1)],?_⟩
 try cbv
 refine⟨pm24,hpm24,?_⟩
 clear hpm24
 try cbv
 exact⟨[],rfl,rfl,⟨rfl,⟨rfl,trivial⟩⟩,trivial,trivial⟩
def F40 (n:Nat) (z1:Int) (pm2:List PRow):Option (Bool×(List PRow)):=
 bS (F99 n z1 pm2) (fun p10=>bO6 (some p10) fun pm3 u4 z5 z6 z7 l8=>(if z7=z5 then setPF pm3 u4 [.int .i64 z5,.int .i64 z6,.int .i64 z7] l8 fun pm13=>some (true,pm13)else setPF pm3 u4 [.int .i64 z5,.int .i64 z6,.int .i64 z7] l8 fun pm14=>some (false,pm14))) (fun pm9=>some (true,pm9))
theorem T40 (n:Nat):∀⦃z1:Int⦄ ⦃pm2:List PRow⦄ ⦃r1:Bool⦄ ⦃r2:List PRow⦄,F40 n z1 pm2=some (r1,r2)→
    Trip Try.prog inv 40 [.c (.ptr (.ext 0) 0),.d (.int .i64 z1)] [.cells [.ow (.ext 1)],.pmap 3 6 8 pm2 none] (.v (.d (.bool r1))) [.cells [.ow (.ext 1)],.pmap 3 6 8 r2 none] []:=by
 intro z1 pm2 r1 r2 h
 unfold F40 at h
 refine Trip.of tab_ok tab_one fol Try.func40 rfl (by kernel_rfl) rfl rfl rfl (fun M hM hI=>?_)
 try cbv
 refine seq_go ?_
 try cbv
 refine seq_go ?_
 try cbv
 replace h:=bS_inv h
 rcases h with⟨p10,hr,h⟩ | ⟨pm9,hr,h⟩
 rotate_left
 ·refine call_go rfl rfl ?_
  try cbv
  refine call_with hM hI [.ext 0,.ext 1] (T99 _ hr (fun r p n=>r= .v (.c (.nilp))∧p=[.cells [.ow (.ext 1)],.pmap 3 6 8 pm9 none]∧n=[]) ⟨rfl,rfl,rfl⟩:Trip _ _ _ _ _ (.v (.c (.nilp))) [.cells [.ow (.ext 1)],.pmap 3 6 8 pm9 none] []) rfl (by simp) ⟨rfl,⟨rfl,trivial⟩⟩ ⟨trivial,⟨trivial,trivial⟩⟩ (by simp) ?_
  clear hr
  try cbv
  refine seq_go ?_
  try cbv
  refine drawn ?_ ?_
  ·show _=true
   kernel_rfl
  try cbv
  obtain⟨rfl,rfl⟩:=inj2 h
  refine fin_go ?_
  try cbv
  exact⟨[],rfl,rfl,⟨rfl,⟨rfl,trivial⟩⟩,trivial,trivial⟩
 replace h:=bO6_inv h
 obtain⟨pm3,u4,z5,z6,z7,l8,hp,h⟩:=h
 obtain rfl:=Option.some.inj hp
 clear hp
 refine call_go rfl rfl ?_
 try cbv
 refine call_with hM hI [.ext 0,.ext 1] (T99 _ hr (fun r p n=>r= .v (.c (.ptr (.loc 0) 0))∧p=[.cells [.ow (.ext 1)],.pmap 3 6 8 pm3 (some (u4,.loc 0))]∧n=[.arr [.d (.int .i64 z5),.d (.int .i64 z6),.d (.int .i64 z7)] true 6 l8 []]) ⟨rfl,rfl,rfl⟩:Trip _ _ _ _ _ (.v (.c (.ptr (.loc 0) 0))) [.cells [.ow (.ext 1)],.pmap 3 6 8 pm3 (some (u4,.loc 0))] [.arr [.d (.int .i64 z5),.d (.int .i64 z6),.d (.int .i64 z7)] true 6 l8 []]) rfl (by simp) ⟨rfl,⟨rfl,trivial⟩⟩ ⟨trivial,⟨trivial,trivial⟩⟩ (by simp) ?_
 clear hr
 try cbv
 refine seq_go ?_
 try cbv
 refine splitI (fun e=>?_) (fun e=>?_)
 ·replace h:=ite_t e h
  clear e
  try cbv
  refine drawn ?_ ?_
  ·show _=true
   kernel_rfl
  try cbv
  replace h:=setPF_inv h
  obtain⟨pm13,hpm13,h⟩:=h
  obtain⟨rfl,rfl⟩:=inj2 h
  refine⟨_,_,_,⟨rfl,rfl,rfl⟩,[.closeP (.ext 1)],?_⟩
  try cbv
  refine⟨pm13,hpm13,?_⟩
  clear hpm13
  try cbv
  exact⟨[],rfl,rfl,⟨rfl,⟨rfl,trivial⟩⟩,trivial,trivial⟩
 replace h:=ite_f e h
 clear e
 try cbv
 refine drawn ?_ ?_
 ·show _=true
  kernel_rfl
 try cbv
 replace h:=setPF_inv h
 obtain⟨pm14,hpm14,h⟩:=h
 obtain⟨rfl,rfl⟩:=inj2 h
 refine⟨_,_,_,⟨rfl,rfl,rfl⟩,[.closeP (.ext 1)],?_⟩
 try cbv
 refine⟨pm14,hpm14,?_⟩
 clear hpm14
 try cbv
 exact⟨[],rfl,rfl,⟨rfl,⟨rfl,trivial⟩⟩,trivial,trivial⟩
def F39 (n:Nat) (z1:Int) (z2:Int) (z3:Int) (s4:ByteArray) (z5:Int) (pm6:List PRow) (l7:List D) (l8:List D):Option (Bool×(List PRow)×List D×List D):=
 bO2 (F40 n z1 pm6) fun b9 pm10=>(if b9=true then some (false,pm10,l7,l8)else bS (F99 n z1 pm10) (fun p18=>bO6 (some p18) fun pm11 u12 z13 z14 z15 l16=>letF (IntKind.wrap .i64 (z14+z15)) fun z21=>needF ((8:Int)≠0) (letF (Int.tmod z21 8) fun z22=>bO6 (F95 n z2 z3 s4 l7 z5 l8) fun z23 z24 s25 z26 l27 l28=>needF (0≤z22∧z22<8) (setNF l16 (z22.toNat) (.agg [.int .u8 z23,.int .i64 z24,.str s25,.list true 6 l27,.int .i64 z26,.list false 1 l28]) fun l29=>letF (IntKind.wrap .i64 (z15+1)) fun z30=>setPF pm11 u12 [.int .i64 z13,.int .i64 z14,.int .i64 z30] l29 fun pm31=>some (true,pm31,l7,l8)))) (fun pm17=>none))
theorem T39 (n:Nat):∀⦃z1:Int⦄ ⦃z2:Int⦄ ⦃z3:Int⦄ ⦃s4:ByteArray⦄ ⦃z5:Int⦄ ⦃pm6:List PRow⦄ ⦃l7:List D⦄ ⦃l8:List D⦄ ⦃r1:Bool⦄ ⦃r2:List PRow⦄ ⦃r3:List D⦄ ⦃r4:List D⦄,F39 n z1 z2 z3 s4 z5 pm6 l7 l8=some (r1,r2,r3,r4)→
    Trip Try.prog inv 39 [.c (.ptr (.ext 0) 0),.d (.int .i64 z1),.agg [.d (.int .u8 z2),.d (.int .i64 z3),.d (.str s4),.ow (.ext 2),.d (.int .i64 z5),.ow (.ext 3)]] [.cells [.ow (.ext 1)],.pmap 3 6 8 pm6 none,.tree .row true 6 l7 none,.tree .row false 1 l8 none] (.v (.d (.bool r1))) [.cells [.ow (.ext 1)],.pmap 3 6 8 r2 none,.tree .row true 6 r3 none,.tree .row false 1 r4 none] []:=by
 intro z1 z2 z3 s4 z5 pm6 l7 l8 r1 r2 r3 r4 h
 unfold F39 at h
 refine Trip.of tab_ok tab_one fol Try.func39 rfl (by kernel_rfl) rfl rfl rfl (fun M hM hI=>?_)
 try cbv
 refine seq_go ?_
 try cbv
 refine seq_go ?_
 try cbv
 refine seq_go ?_
 try cbv
 replace h:=bO2_inv h
 obtain⟨b9,pm10,hr,h⟩:=h
 refine call_go rfl rfl ?_
 try cbv
 refine call_with hM hI [.ext 0,.ext 1] (T40 _ hr) rfl (by simp) ⟨rfl,⟨rfl,trivial⟩⟩ ⟨trivial,⟨trivial,trivial⟩⟩ (by simp) ?_
 clear hr
 try cbv
 cases b9
 rotate_left
 ·replace h:=ite_t rfl h
  try cbv
  refine seq_go ?_
  try cbv
  obtain⟨rfl,rfl,rfl,rfl⟩:=inj4 h
  refine fin_go ?_
  try cbv
  exact⟨[],rfl,rfl,⟨rfl,⟨rfl,⟨rfl,⟨rfl,trivial⟩⟩⟩⟩,trivial,trivial⟩
 replace h:=ite_f Bool.false_ne_true h
 try cbv
 refine seq_go ?_
 try cbv
 replace h:=bS_inv h
 rcases h with⟨p18,hr,h⟩ | ⟨pm17,hr,h⟩
 rotate_left
 ·refine call_go rfl rfl ?_
  try cbv
  refine call_with hM hI [.ext 0,.ext 1] (T99 _ hr (fun r p n=>r= .v (.c (.nilp))∧p=[.cells [.ow (.ext 1)],.pmap 3 6 8 pm17 none]∧n=[]) ⟨rfl,rfl,rfl⟩:Trip _ _ _ _ _ (.v (.c (.nilp))) [.cells [.ow (.ext 1)],.pmap 3 6 8 pm17 none] []) rfl (by simp) ⟨rfl,⟨rfl,trivial⟩⟩ ⟨trivial,⟨trivial,trivial⟩⟩ (by simp) ?_
  clear hr
  try cbv
  refine seq_go ?_
  try cbv
  cases h
 replace h:=bO6_inv h
 obtain⟨pm11,u12,z13,z14,z15,l16,hp,h⟩:=h
 obtain rfl:=Option.some.inj hp
 clear hp
 refine call_go rfl rfl ?_
 try cbv
 refine call_with hM hI [.ext 0,.ext 1] (T99 _ hr (fun r p n=>r= .v (.c (.ptr (.loc 0) 0))∧p=[.cells [.ow (.ext 1)],.pmap 3 6 8 pm11 (some (u12,.loc 0))]∧n=[.arr [.d (.int .i64 z13),.d (.int .i64 z14),.d (.int .i64 z15)] true 6 l16 []]) ⟨rfl,rfl,rfl⟩:Trip _ _ _ _ _ (.v (.c (.ptr (.loc 0) 0))) [.cells [.ow (.ext 1)],.pmap 3 6 8 pm11 (some (u12,.loc 0))] [.arr [.d (.int .i64 z13),.d (.int .i64 z14),.d (.int .i64 z15)] true 6 l16 []]) rfl (by simp) ⟨rfl,⟨rfl,trivial⟩⟩ ⟨trivial,⟨trivial,trivial⟩⟩ (by simp) ?_
 clear hr
 try cbv
 refine seq_go ?_
 try cbv
 replace h:=letF_inv h
 obtain⟨z21,hz,h⟩:=h
 refine⟨z21,hz,?_⟩
 clear hz
 try cbv
 replace h:=needF_inv h
 obtain⟨hn,h⟩:=h
 replace h:=letF_inv h
 obtain⟨z22,hz,h⟩:=h
 refine⟨z22,hn,hz,?_⟩
 clear hn hz
 try cbv
 replace h:=bO6_inv h
 obtain⟨z23,z24,s25,z26,l27,l28,hr,h⟩:=h
 have hT:=Trip.frz (Trip.lend (targs':=[.agg [.d (.int .u8 z2),.d (.int .i64 z3),.d (.str s4),.ow (.ext 0),.d (.int .i64 z5),.ow (.ext 1)]]) (T95 _ hr) [.tree .row true 6 l7 none,.tree .row false 1 l8 none] rfl rfl rfl rfl rfl rfl) rfl rfl
 first | refine .inr (.inl ⟨[],?_⟩) | refine .inl ⟨[],?_⟩
 try cbv
 refine call_with hM hI [.ext 2,.ext 3] hT rfl (by simp) ⟨rfl,⟨rfl,trivial⟩⟩ ⟨trivial,⟨trivial,trivial⟩⟩ (by simp) ?_
 clear hr
 try cbv
 replace h:=needF_inv h
 obtain⟨hn,h⟩:=h
 refine⟨hn.1,hn.2,false,?_⟩
 clear hn
 try cbv
 replace h:=setNF_inv h
 obtain⟨l29,hb,hz,h⟩:=h
 refine⟨(M.lock_iff _).2 hb,l29,hz,?_⟩
 clear hb hz
 try cbv
 refine drawn ?_ ?_
 ·show _=true
  kernel_rfl
 try cbv
 refine seq_go ?_
 try cbv
 replace h:=letF_inv h
 obtain⟨z30,hz,h⟩:=h
 refine⟨z30,hz,?_⟩
 clear hz
 try cbv
 refine seq_go ?_
 try cbv
 replace h:=setPF_inv h
 obtain⟨pm31,hpm31,h⟩:=h
 obtain⟨rfl,rfl,rfl,rfl⟩:=inj4 h
 refine⟨_,_,_,⟨rfl,rfl,rfl⟩,[.closeP (.ext 1)],?_⟩
 try cbv
 refine⟨pm31,hpm31,?_⟩
 clear hpm31
 try cbv
 exact⟨[],rfl,rfl,⟨rfl,⟨rfl,⟨rfl,⟨rfl,trivial⟩⟩⟩⟩,trivial,trivial⟩
def F101 (n:Nat) (z1:Int) (z2:Int) (z3:Int) (l4:List D):Option (Int×Int×Int×List D):=
 some (z1,z2,z3,l4)
theorem T101 (n:Nat):∀⦃z1:Int⦄ ⦃z2:Int⦄ ⦃z3:Int⦄ ⦃l4:List D⦄ ⦃r1:Int⦄ ⦃r2:Int⦄ ⦃r3:Int⦄ ⦃r4:List D⦄,F101 n z1 z2 z3 l4=some (r1,r2,r3,r4)→
    Trip Try.prog inv 101 [.c (.ptr (.ext 0) 0)] [.arr [.d (.int .i64 z1),.d (.int .i64 z2),.d (.int .i64 z3)] true 6 l4 []] (.v (.c (.fn 142 [.loc 0]))) [.arr [.d (.int .i64 r1),.d (.int .i64 r2),.d (.int .i64 r3)] true 6 r4 []] [.cells [.ptr (.ext 0) 0]]:=by
 intro z1 z2 z3 l4 r1 r2 r3 r4 h
 unfold F101 at h
 refine Trip.of tab_ok tab_one fol Try.func101 rfl (by kernel_rfl) rfl rfl rfl (fun M hM hI=>?_)
 try cbv
 refine seq_go ?_
 try cbv
 refine seq_go ?_
 try cbv
 obtain⟨rfl,rfl,rfl,rfl⟩:=inj4 h
 refine fin_go ?_
 try cbv
 exact⟨[.loc 0],rfl,rfl,⟨rfl,trivial⟩,⟨rfl,trivial⟩,trivial⟩
end Go.Proofs.Ytiiojajgajnhpaa
end
