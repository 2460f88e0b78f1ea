/- Part of a proof. No condition. (Part 4: AmO, AmQ, AmS, AmP, AmAb, AmU, AmUB, YtiiojajgajnhpaaTab, YtiiojajgajnhpaaHy, YtiiojajgajnhpaaHk, AmKE, AmOB, AmX, AmJB, AmPX, YtiiojajgajnhpaaFo, YtiiojajgajnhpaaQDs, YtiiojajgajnhpaaQ92, YtiiojajgajnhpaaQ36, YtiiojajgajnhpaaQ98, YtiiojajgajnhpaaQ34, YtiiojajgajnhpaaQ141, YtiiojajgajnhpaaQ95, QoA, .) -/
import Derived.DataReads
import Derived.Test.YtiiojajgajnhpaaProg
import Derived.KernelRfl
import Derived.Test.YtiiojajgajnhpaaQueC
set_option linter.unusedVariables false
set_option linter.unusedSimpArgs false
namespace Go.AM
open Go Go.RowKit
theorem draw_P {P:Program}{ti:Types}(hti:TIok P ti) (h1:TIone ti) (hm:P.follows .mixedOrders=true):∀C:Cx,C.P=P→DrawOK C (execDraw ti C.M C.nt):=fun C hC=>by
 have hti':TIok C.P ti:=by rw[hC];exact hti
 have hm':C.P.follows .mixedOrders=true:=by rw[hC];exact hm
 exact draw_ok hti' h1 hm'
theorem TripK.of {P:Program}{I:Inv}{ti:Types}(hti:TIok P ti) (h1:TIone ti) (hm:P.follows .mixedOrders=true) {f:FuncId}{fn:Func}{c:Code}(hf:P.funcs[f]?=some fn) (hb:fn.body=some c)
  (hname:(fn.name== "runtime.NumGoroutine")=false) {args:List V1} {pre:List AObj} {Q:AV→List AObj→List AObj→Prop} {nt:Nat} (hnt:fn.ntmps=nt) (hargs:Nat.ble args.length nt=true) {rs:List ResultVar} (hrs:fn.results.toList=rs)
  (hx:∀M:Mach,M.P=P→M.I=I→exec M ti nt (execDraw ti M nt) c ⟨slotsOf args 0,extsOf pre 0,0⟩ fun e σ=>match e with
   | .exit _=>False
   | .normal=>∃res post new,Q res post new∧Fin' ti rs σ res post new
   | .ret=>∃res post new,Q res post new∧Fin' ti rs σ res post new):TripK P I f args pre Q:=by
 subst hnt
 subst hrs
 exact TripK.intro (fun M nt=>execDraw ti M nt) hti h1 (draw_P hti h1 hm) hf hb hname (Nat.le_of_ble_eq_true hargs) hx
theorem Trip.of {P:Program}{I:Inv}{ti:Types}(hti:TIok P ti) (h1:TIone ti) (hm:P.follows .mixedOrders=true) {f:FuncId}{fn:Func}{c:Code}(hf:P.funcs[f]?=some fn) (hb:fn.body=some c)
  (hname:(fn.name== "runtime.NumGoroutine")=false) {args:List V1} {pre post new:List AObj} {res:AV} {nt:Nat} (hnt:fn.ntmps=nt) (hargs:Nat.ble args.length nt=true) {rs:List ResultVar} (hrs:fn.results.toList=rs)
  (hx:∀M:Mach,M.P=P→M.I=I→exec M ti nt (execDraw ti M nt) c ⟨slotsOf args 0,extsOf pre 0,0⟩ fun e σ=>match e with
   | .exit _=>False
   | .normal=>∃r p n,(r=res∧p=post∧n=new)∧Fin' ti rs σ r p n
   | .ret=>∃r p n,(r=res∧p=post∧n=new)∧Fin' ti rs σ r p n):Trip P I f args pre res post new:=
 TripK.of hti h1 hm hf hb hname hnt hargs hrs hx
theorem fin_go {ti:Types}{rs:List ResultVar}{σ:St}{res:AV}{post new:List AObj}(h:withRes ti σ rs fun xs=>∃nm:List Id,nodupB nm=true∧mkRes xs=res.ren (renN nm σ.next)∧postOK (getH σ.heap) (renN nm σ.next) post 0∧newOK (getH σ.heap) (renN nm σ.next) new nm∧handOK post nm):
  ∃r p n,(r=res∧p=post∧n=new)∧Fin' ti rs σ r p n:=⟨_,_,_,⟨rfl,rfl,rfl⟩,[],h⟩
theorem TripK.at {P:Program}{I:Inv}{M:Mach}{f:FuncId}{args:List V1}{pre:List AObj}{Q:AV→List AObj→List AObj→Prop}(hP:M.P=P) (hI:M.I=I) (h:TripK P I f args pre Q):TripK M.P M.I f args pre Q:=by rw[hP,hI];exact h
theorem RoundK.of {P:Program}{I:Inv}{M:Mach}(hP:M.P=P) (hI:M.I=I) {ti:Types}(hti:TIok P ti) (h1:TIone ti) (hm:P.follows .mixedOrders=true) {r:RF}{sl:List (Nat×AV)}{args:List V1}{pre:List AObj}{Q:Jump→List AObj→List AObj→Prop}{nt:Nat}{ps:List Tmp}{ca cb:Code}
  (hnt:r.nt=nt) (hpl:r.params.toList=ps) (ha:r.assign=ca) (hb:r.body=cb) (hlen:args.length=ps.length) (hps:allB (fun p=>Nat.blt p nt) ps=true)
  (hx:∀M:Mach,M.P=P→M.I=I→exec M ti nt (execDraw ti M nt) ca ⟨putPs ps args sl,extsOf pre 0,0⟩ fun e σ=>match e with
   | .normal=>exec M ti nt (execDraw ti M nt) cb σ fun e σ=>∃post new,Q (jumpOf e) post new∧FinR σ post new
   | _=>False):RoundK M.P M.I r sl args pre Q:=by
 subst hnt
 subst hpl
 subst ha
 subst hb
 rw[hP,hI]
 exact RoundK.intro (fun M nt=>execDraw ti M nt) hti h1 (draw_P hti h1 hm) (by simpa using hlen) hps hx
section
variable {M:Mach}{A:Bool→Prop}
theorem splitI {a b:Int}(h1:a=b→A true) (h0:a≠b→A false):M.split (M.eqI a b) A:=by
 rw[M.split_iff,M.eqI_eq]
 by_cases h:a=b
 ·rw[beq_iff_eq.2 h];exact h1 h
 ·rw[beq_eq_false_iff_ne.2 h];exact h0 h
theorem splitL {a b:Int}(h1:a<b→A true) (h0:b≤a→A false):M.split (M.ltI a b) A:=by
 rw[M.split_iff,M.ltI_eq]
 by_cases h:a<b
 ·rw[decide_eq_true h];exact h1 h
 ·rw[decide_eq_false h];exact h0 (by omega)
theorem splitLe {a b:Int}(h1:a≤b→A true) (h0:b<a→A false):M.split (M.leI a b) A:=by
 rw[M.split_iff,M.leI_eq]
 by_cases h:a≤b
 ·rw[decide_eq_true h];exact h1 h
 ·rw[decide_eq_false h];exact h0 (by omega)
theorem splitS {a b:ByteArray}(h1:(a.toList==b.toList)=true→A true) (h0:(a.toList==b.toList)=false→A false):M.split (M.eqS a b) A:=by
 rw[M.split_iff,M.eqS_eq]
 cases h:(a.toList==b.toList)
 ·exact h0 h
 ·exact h1 h
end
section
variable {M:Mach}{f:FuncId}{args:List V1}{fresh:Nat}{h:Heap}{k:Out→Prop}{targs:List V1}{res:AV}
theorem call_pure {P:Program}{I:Inv}(hP:M.P=P) (hI:M.I=I) (ht:Trip P I f targs [] res [] []) (he:args=targs.map (V1.ren (renM [] fresh))) (hk:k ⟨res.ren (renM [] fresh),[],[]⟩):
  M.lock fun _=>outCall M.P M.I f args fresh h k:=
 (M.lock_iff _).2 ⟨[],targs,[],res,[],[],hP▸hI▸ht,he,rfl,List.nodup_nil,by simp,trivial,by simp,hk⟩
theorem opOut_call {ti:Types}{o:Oper}{c:Call}{x:Operand}{s:Slots}(ho:o.op= .call c) (hc:c.callee= .value x) (hk:withCl h (fun h'=>opOut0 M ti o fresh s h') k):opOut M ti o fresh s h k:=by
 unfold opOut
 rw[ho]
 simp only[]
 rw[hc]
 exact .inr (.inl hk)
theorem call_go {ti:Types}{o:Oper}{c:Call}{x:Operand}{s:Slots}{X:Prop}(ho:o.op= .call c) (hc:c.callee= .value x) (hk:opOut0 M ti o fresh s h k):M.lock fun _=>opOut M ti o fresh s h k∨X:=
 (M.lock_iff _).2<| .inl<| opOut_call ho hc ⟨[],hk⟩
theorem call_in {A X:Prop}(hk:X):M.lock fun _=>A∨X:=(M.lock_iff _).2 (.inr hk)
def preOK (h:Heap) (r:Id→Id):List Id→List AObj→Prop
 | [],[]=>True
 | i::m,o::pre=>h i=some (o.ren r)∧preOK h r m pre
 | _,_=>False
theorem preOK_get {r:Id→Id}:∀{m:List Id}{pre:List AObj},preOK h r m pre→m.length=pre.length∧∀(j:Nat) i o,m[j]?=some i→pre[j]?=some o→h i=some (o.ren r)
 | [],[],_=>⟨rfl,by simp⟩
 | i::m,o::pre,hp=>by
  obtain⟨h1,h2⟩:=preOK_get hp.2
  refine⟨by simp[h1],fun j i' o' hi ho=>?_⟩
  match j with
  | 0=>simp at hi ho;subst hi;subst ho;exact hp.1
  | j+1=>simp at hi ho;exact h2 j i' o' hi ho
 | [],_::_,hp=>hp.elim
 | _::_,[],hp=>hp.elim
theorem call_with {P:Program}{I:Inv}(hP:M.P=P) (hI:M.I=I) (m:List Id) {pre post new:List AObj}(ht:Trip P I f targs pre res post new) (he:args=targs.map (V1.ren (renM m fresh))) (hm:m.Nodup)
  (hpre:preOK h (renM m fresh) m pre) (hkd:allKinds pre post) (hn:new.length≤31) (hk:k ⟨res.ren (renM m fresh),m,wrM m (renM m fresh) post++wrNew fresh (renM m fresh) 0 new⟩):
  M.lock fun _=>outCall M.P M.I f args fresh h k:=
 (M.lock_iff _).2 ⟨m,targs,pre,res,post,new,hP▸hI▸ht,he,(preOK_get hpre).1,hm,(preOK_get hpre).2,hkd,hn,hk⟩
end
theorem drawn {M:Mach}{p:Unit→Prop}{K:Prop}(hd:p ()) (hk:K):M.lock p∧K:=⟨(M.lock_iff _).2 hd,hk⟩
theorem loop_inv {M:Mach}{ex:St→(AExit→St→Prop)→Prop}{σ:St}{K:AExit→St→Prop}(ks:List Nat) (is:List Id) (nx:Nat) {T:Type}(S:T→St) (I:T→Prop) (m:T→Nat) (t0:T)
  (hI:I t0) (h0:keep ks is nx σ (·=S t0))
  (hr:∀t,I t→ex (S t) fun e σ2=>match e with
   | .normal=>∃n' σ3,n'<m t∧Weak σ2 σ3∧∃t',I t'∧n'=m t'∧σ3=S t'
   | .exit id=>K (.exit id) σ2
   | .ret=>K .ret σ2):M.lock fun _=>loopP ex σ K∨∃n,unrollP ex K n σ:=by
 refine (M.lock_iff _).2<| .inl ⟨fun n σ=>∃t,I t∧n=m t∧σ=S t,m t0,?_,?_⟩
 ·obtain⟨σ',hw,e⟩:=keep_weak h0
  exact⟨σ',hw,t0,hI,rfl,e⟩
 ·rintro n σ1 ⟨t,h1,rfl,rfl⟩
  exact hr t h1
theorem loop_invT {M:Mach}{ex:St→(AExit→St→Prop)→Prop}{σ:St}{K:AExit→St→Prop}(tr:List TokReq) (ks:List Nat) (is:List Id) (nx:Nat) {T:Type}(S:T→St) (I:T→Prop) (m:T→Nat) (t0:T)
  (hI:I t0) (h0:tokAll (fun σ=>keep ks is nx σ (·=S t0)) tr σ)
  (hr:∀t,I t→ex (S t) fun e σ2=>match e with
   | .normal=>∃n' σ3,n'<m t∧Weak σ2 σ3∧∃t',I t'∧n'=m t'∧σ3=S t'
   | .exit id=>K (.exit id) σ2
   | .ret=>K .ret σ2):M.lock fun _=>loopP ex σ K∨∃n,unrollP ex K n σ:=by
 refine (M.lock_iff _).2<| .inl ⟨fun n σ=>∃t,I t∧n=m t∧σ=S t,m t0,?_,?_⟩
 ·obtain⟨σ1,hw1,h1⟩:=tokAll_weak h0
  obtain⟨σ',hw,e⟩:=keep_weak h1
  exact⟨σ',Weak.trans hw1 hw,t0,hI,rfl,e⟩
 ·rintro n σ1 ⟨t,h1,rfl,rfl⟩
  exact hr t h1
theorem loop_next {T:Type}{m:T→Nat}{I:T→Prop}{S:T→St}{σ2:St}{k:Nat}(t':T) (ks:List Nat) (is:List Id) (nx:Nat) (hI:I t') (hm:m t'<k) (hk:keep ks is nx σ2 (·=S t')):
  ∃n' σ3,n'<k∧Weak σ2 σ3∧∃t',I t'∧n'=m t'∧σ3=S t':=by
 obtain⟨σ',hw,e⟩:=keep_weak hk
 exact⟨m t',σ',hm,hw,t',hI,rfl,e⟩
section
variable {M:Mach}{L L':List D}{N i:Int}(hN:0≤N∧L.length=N.toNat)
include hN
end
end Go.AM
namespace Go.AM
open Go Go.RowKit
inductive Shape (ti:Types):TypeId→List D→Prop where
 | bool {t x} (b:Bool) (h:ti t=some x) (hd:x.desc= .bool):Shape ti t [.bool b]
 | int {t x k} (n:Int) (h:ti t=some x) (hd:x.desc= .int k) (hw:(Lit.int k n).wf=true):Shape ti t [.int k n]
 | str {t x} (s:ByteArray) (h:ti t=some x) (hd:x.desc= .string) (hs:s.size≤maxLen):Shape ti t [.str s]
 | slice {t x e y} (rows:List D) (h:ti t=some x) (hd:x.desc= .slice e) (he:ti e=some y) (hl:rows.length≤maxLen)
   (hf:∀r∈rows,r.fits (rowD y.desc) y.size) (hr:∀r∈rows,Shape ti e r.cells):Shape ti t [.list (rowD y.desc) y.size rows]
 | struct {t x fs} (ds:List D) (h:ti t=some x) (hd:x.desc= .struct fs) (hl:ds.length=x.size) (hg:∀c∈ds,c.isAgg=false)
   (hr:∀f∈fs.toList,∀y,ti f.type=some y→Shape ti f.type ((ds.drop f.offset).take y.size)):Shape ti t ds
def chain (ti:Types):Nat→List Field→Option Nat
 | off,[]=>some off
 | off,f::r=>if f.offset=off then match ti f.type with
   | some y=>chain ti (off+y.size) r
   | none=>none
  else none
theorem chain_le {ti:Types}:∀{fs:List Field}{off tot:Nat},chain ti off fs=some tot→off≤tot∧∀f∈fs,off≤f.offset∧∃y,ti f.type=some y
 | [],off,tot,h=>by simp[chain]at h;subst h;exact⟨Nat.le_refl _,by simp⟩
 | f::fs,off,tot,h=>by
  unfold chain at h
  split at h
  ·rename_i ho
   split at h
   ·rename_i y hy
    obtain⟨h1,h2⟩:=chain_le h
    refine⟨by omega,fun f' hf'=>?_⟩
    rcases List.mem_cons.1 hf' with rfl | hf'
    ·exact⟨by omega,y,hy⟩
    ·exact⟨by have:=(h2 f' hf').1;omega,(h2 f' hf').2⟩
   ·simp at h
  ·simp at h
def plainB (ti:Types) (T:List TypeId):Bool:=
 T.all fun t=>match ti t with
  | some x=>match x.desc with
   | .bool | .int _ | .string=>x.size==1
   | .slice e=>T.contains e&&(x.size==1)&&(match ti e with
    | some y=>decide (0<y.size)&&(rowD y.desc || y.size==1)
    | none=>false)
   | .struct fs=>(chain ti 0 fs.toList==some x.size)&&fs.toList.all fun f=>T.contains f.type
   | _=>false
  | none=>false
theorem choose_list {Q:Nat→D→Prop}:∀n,(∀i,i<n→∃r,Q i r)→∃l:List D,l.length=n∧∀i r,l[i]?=some r→Q i r
 | 0,_=>⟨[],rfl,by simp⟩
 | n+1,h=>by
  obtain⟨l,h1,h2⟩:=choose_list n (fun i hi=>h i (by omega))
  obtain⟨r,hr⟩:=h n (by omega)
  refine⟨l++[r],by simp[h1],fun i r' hi=>?_⟩
  by_cases hl:i<l.length
  ·rw[List.getElem?_append_left hl]at hi;exact h2 i r' hi
  ·rw[List.getElem?_append_right (by omega)]at hi
   have hin:i=n:=by
    by_cases he:i=n
    ·exact he
    ·rw[List.getElem?_eq_none (by simp;omega)]at hi;simp at hi
   subst hin
   rw[h1]at hi
   simp at hi
   subst hi
   exact hr
def RelDs (w:World) (Z:Zone) (ds:List D) (cs:List Value):Prop:=
 ds.length=cs.length∧(∀c∈ds,c.isAgg=false)∧∀(j:Nat) c u,ds[j]?=some c→cs[j]?=some u→RelD w Z c u
theorem relDs_one {w:World}{Z:Zone}{c:D}{u:Value}(hc:c.isAgg=false) (h:RelD w Z c u):RelDs w Z [c] [u]:=
 ⟨rfl,by simpa using hc,fun j c' u' h1 h2=>by
  match j with
  | 0=>simp at h1 h2;subst h1;subst h2;exact h
  | j+1=>simp at h1⟩
theorem conv_fields {w:World}{Z:Zone}{ti:Types}{cs:List Value}:∀(fs:List Field) (off tot:Nat),chain ti off fs=some tot→tot≤cs.length→
  (∀f∈fs,∀y,ti f.type=some y→∃ds,Shape ti f.type ds∧RelDs w Z ds ((cs.drop f.offset).take y.size))→
  ∃ds,RelDs w Z ds ((cs.drop off).take (tot - off))∧∀f∈fs,∀y,ti f.type=some y→Shape ti f.type ((ds.drop (f.offset - off)).take y.size)
 | [],off,tot,h,_,_=>by
  simp[chain]at h
  subst h
  exact⟨[],⟨by simp,by simp,by simp⟩,by simp⟩
 | f::fs,off,tot,h,hl,hx=>by
  unfold chain at h
  split at h
  ·rename_i ho
   split at h
   ·rename_i y hy
    obtain⟨hle,hoff⟩:=chain_le h
    obtain⟨ds',⟨a1,a2,a3⟩,hs'⟩:=conv_fields fs _ tot h hl (fun f' hf'=>hx f' (List.mem_cons_of_mem _ hf'))
    obtain⟨p,hp,b1,b2,b3⟩:=hx f (by simp) y hy
    rw[ho]at b1 b3
    have hpl:p.length=y.size:=by rw[b1];simp;omega
    refine⟨p++ds',⟨?_,?_,?_⟩,fun f' hf' y' hy'=>?_⟩
    ·simp at a1 ⊢;omega
    ·intro c hc
     rcases List.mem_append.1 hc with hc | hc
     ·exact b2 c hc
     ·exact a2 c hc
    ·intro j c u hc hu
     rw[List.getElem?_take]at hu
     split at hu
     ·rename_i hj
      rw[List.getElem?_drop]at hu
      by_cases hjp:j<p.length
      ·rw[List.getElem?_append_left hjp]at hc
       refine b3 j c u hc ?_
       rw[List.getElem?_take,if_pos (by omega),List.getElem?_drop];exact hu
      ·rw[List.getElem?_append_right (by omega)]at hc
       refine a3 (j - p.length) c u hc ?_
       rw[List.getElem?_take,if_pos (by omega),List.getElem?_drop,←hu]
       congr 1
       omega
     ·simp at hu
    ·rcases List.mem_cons.1 hf' with rfl | hf'
     ·rw[hy]at hy'
      obtain rfl:y=y':=by simpa using hy'
      rw[ho,Nat.sub_self,List.drop_zero,List.take_append_of_le_length (by omega),List.take_of_length_le (by omega)]
      exact hp
     ·have h1:=(hoff f' hf').1
      have:=hs' f' hf' y' hy'
      rw[List.drop_append,List.drop_of_length_le (by omega),List.nil_append]
      rw[show f'.offset - off - p.length=f'.offset - (off+y.size)from by omega]
      exact this
   ·simp at h
  ·simp at h
theorem cellsOf_ti {P:Program}{ti:Types}(hti:TIok P ti) {t:TypeId}{x:TI}(h:ti t=some x):P.cellsOf t=x.size:=by
 obtain⟨_,i,h1,h2,_⟩:=hti t x h
 simp[Program.cellsOf,h1,h2]
theorem conv {H:Type}{enc:TypeId×Value→H}{P:Program}{ti:Types}(hti:TIok P ti) {T:List TypeId}(hT:plainB ti T=true) {w:World}{base:Nat}{spare:Nat→Bool}{held:Bool}{Z:Zone}(hZ:∀b o,¬Z b o):
  ∀(fuel:Nat) (t:TypeId) (cs:List Value) (d:DataW H) (ps:List MemPlace),t∈T→DataW.trod enc P w base spare held fuel t cs=some (d,ps)→∃ds,Shape ti t ds∧RelDs w Z ds cs
 | 0,t,cs,d,ps,_,h=>by simp[DataW.trod]at h
 | fuel+1,t,cs,d,ps,ht,h=>by
  have hp:=hT
  unfold plainB at hp
  have hp:=List.all_eq_true.1 hp t ht
  split at hp
  ·rename_i x hx
   have hu:=(hti t x hx).1
   have hcs:=cellsOf_ti hti hx
   split at hp
   ·rename_i hd
    rw[hd]at hu
    unfold DataW.trod at h
    simp only[hu]at h
    split at h<;>simp_all
    exact⟨_,.bool _ hx hd,relDs_one rfl (.bool _)⟩
   ·rename_i k hd
    rw[hd]at hu
    unfold DataW.trod at h
    simp only[hu]at h
    split at h<;>simp_all
    obtain⟨⟨rfl,hw⟩,_⟩:=h
    exact⟨_,.int _ hx hd hw,relDs_one rfl (.int _ _)⟩
   ·rename_i hd
    rw[hd]at hu
    unfold DataW.trod at h
    simp only[hu]at h
    split at h<;>simp_all
    exact⟨_,.str _ hx hd h.1,relDs_one rfl (.str _)⟩
   ·rename_i e hd
    rw[hd]at hu
    simp only[Bool.and_eq_true]at hp
    obtain⟨⟨he,_⟩,hp⟩:=hp
    have he:e∈T:=by simpa using he
    split at hp
    ·rename_i y hy
     simp only[Bool.and_eq_true,decide_eq_true_eq]at hp
     have hey:=cellsOf_ti hti hy
     unfold DataW.trod at h
     simp only[hu]at h
     split at h<;>rename_i hq<;>try cases hq
     ·exact⟨_,.slice [] hx hd hy (by simp) (by simp) (by simp),relDs_one rfl (relD_nil _ _)⟩
     ·rename_i a len cap
      rw[hey]at h
      split at h
      ·rename_i hg
       obtain⟨elems,he1,_⟩:=Option.bind_eq_some_iff.1 h
       have hel:elems.length=len:=by simpa using mapM_some_length he1
       have each:∀i,i<len→∃cs' ds,(w.cells? base (a.add (i*y.size)) y.size)=some cs'∧Shape ti e ds∧RelDs w Z ds cs':=by
        intro i hi
        have h1:=mapM_some_get he1 i i (by simp[hi])
        rw[List.getElem?_eq_getElem (by omega:i<elems.length)]at h1
        obtain⟨cs',h2,h3⟩:=Option.bind_eq_some_iff.1 h1
        obtain⟨ds,h4,h5⟩:=conv hti hT hZ fuel e cs' _ _ he h3
        exact⟨cs',ds,h2,h4,h5⟩
       have hspot:0<len→a.spot=none:=by
        intro hl
        obtain⟨cs',_,h2,_⟩:=each 0 hl
        obtain⟨_,h3,h4⟩:=World.cells?_some h2
        have h5:=h4 0 hp.1
        rw[List.getElem?_eq_getElem (by omega)]at h5
        simp only[Nat.zero_mul,Addr.add,if_true]at h5
        unfold World.cell? at h5
        split at h5
        ·split at h5
         ·cases h5
         ·rename_i hs;simpa using hs
        ·cases h5
       obtain⟨rows,hrl,hrows⟩:=choose_list (Q:=fun i r=>r.fits (rowD y.desc) y.size∧Shape ti e r.cells∧∀(j:Nat) c,r.cells[j]?=some c→
         ∃u,w.cell? ⟨a.block,a.off+(i*y.size+j),none⟩=some u∧RelD w Z c u) len (fun i hi=>by
        obtain⟨cs',ds,h2,h3,h4⟩:=each i hi
        obtain⟨_,h5,h6⟩:=World.cells?_some h2
        have hdl:ds.length=y.size:=h4.1.trans h5
        obtain⟨r,hr1,hr2⟩:∃r:D,r.cells=ds∧r.isAgg=rowD y.desc:=by
         cases hrw:rowD y.desc with
         | true=>exact⟨.agg ds,rfl,rfl⟩
         | false=>
          rw[hrw]at hp
          have:y.size=1:=by simpa using hp.2
          obtain⟨c,rfl⟩:=List.length_eq_one_iff.1 (hdl.trans this)
          have hc:=h4.2.1 c (by simp)
          exact⟨c,by cases c<;>first | rfl | simp[D.isAgg]at hc,hc⟩
        refine⟨r,⟨hr2,by rw[hr1,hdl],by rw[hr1];exact h4.2.1⟩,by rw[hr1];exact h3,fun j c hc=>?_⟩
        rw[hr1]at hc
        have hj:j<y.size:=by rw[←hdl];exact (List.getElem?_eq_some_iff.1 hc).1
        have h7:=h6 j hj
        have ha:(a.add (i*y.size)).add j=⟨a.block,a.off+(i*y.size+j),none⟩:=by
         have:=hspot (by omega)
         obtain⟨ab,ao,asp⟩:=a
         simp only at this
         subst this
         unfold Addr.add
         split<;>split<;>simp_all<;>omega
        rw[ha,List.getElem?_eq_getElem (by omega:j<cs'.length)]at h7
        exact⟨_,h7,h4.2.2 j c _ hc (List.getElem?_eq_getElem (by omega:j<cs'.length))⟩)
       refine⟨_,.slice rows hx hd hy (by omega) (fun r hr=>?_) (fun r hr=>?_),relDs_one rfl ?_⟩
       ·obtain⟨i,hi⟩:=List.mem_iff_getElem?.1 hr
        exact (hrows i r hi).1
       ·obtain⟨i,hi⟩:=List.mem_iff_getElem?.1 hr
        exact (hrows i r hi).2.1
       ·rw[←hrl]
        refine .list _ _ rows (some a) cap a.block a.off (fun i j=>(w.cell? ⟨a.block,a.off+(i*y.size+j),none⟩).getD undef) (by omega) hg.2.2 (fun r hr=>?_) (fun hne=>?_) (fun i r j c hr hc=>?_) (fun i r j c hr hc=>?_)
        ·obtain⟨i,hi⟩:=List.mem_iff_getElem?.1 hr
         exact (hrows i r hi).1
        ·have:=hspot (by rw[←hrl];exact List.length_pos_iff.2 hne)
         obtain⟨ab,ao,asp⟩:=a
         simp only at this
         rw[this]
        ·obtain⟨u,hu1,_⟩:=(hrows i r hr).2.2 j c hc
         rw[hu1]
         exact⟨rfl,hZ _ _⟩
        ·obtain⟨u,hu1,hu2⟩:=(hrows i r hr).2.2 j c hc
         rw[hu1]
         exact hu2
      ·cases h
     ·cases h
    ·simp at hp
   ·rename_i fs hd
    rw[hd]at hu
    simp only[Bool.and_eq_true,beq_iff_eq]at hp
    obtain⟨hch,hfs⟩:=hp
    unfold DataW.trod at h
    simp only[hu]at h
    split at h<;>rename_i hq<;>try cases hq
    ·obtain⟨xs,hxs,_⟩:=Option.map_eq_some_iff.1 h
     obtain⟨ds,h1,h2⟩:=conv_fields (w:=w) (Z:=Z) (cs:=cs) fs.toList 0 x.size hch (by omega) (fun f hf y hy=>by
      obtain⟨i,hi⟩:=List.mem_iff_getElem?.1 hf
      have h3:=mapM_some_get hxs i f hi
      have hil:i<xs.length:=by rw[mapM_some_length hxs];exact (List.getElem?_eq_some_iff.1 hi).1
      rw[List.getElem?_eq_getElem hil,cellsOf_ti hti hy]at h3
      have hfT:f.type∈T:=by simpa using List.all_eq_true.1 hfs f hf
      exact conv hti hT hZ fuel f.type _ _ _ hfT h3)
     rw[List.drop_zero,Nat.sub_zero,List.take_of_length_le (by omega)]at h1
     exact⟨ds,.struct ds hx hd (by rw[h1.1];omega) h1.2.1 (fun f hf y hy=>by simpa using h2 f hf y hy),h1⟩
    ·cases h
   ·simp at hp
  ·simp at hp
end Go.AM
namespace Go.AM
open Go
structure AllR (L L':List D) (r:Nat→Bool) (R:Bool):Prop where
 len:L.length≠L'.length→R=false
 bad:∀i,i<L.length→i<L'.length→r i=false→R=false
 good:L.length=L'.length→(∀i,i<L.length→r i=true)→R=true
theorem AllR.of (L L':List D) (r:Nat→Bool):AllR L L' r (decide (L.length=L'.length∧∀i,i<L.length→r i=true)) where
 len h:=by simp[h]
 bad i h1 h2 h:=by
  rw[decide_eq_false_iff_not]
  rintro⟨_,h3⟩
  rw[h3 i h1]at h
  cases h
 good h1 h2:=by rw[decide_eq_true_iff];exact⟨h1,h2⟩
section
variable {ti:Types}{t e:TypeId}{x y:TI}{ds:List D}{fs:Array Field}{k:IntKind}
theorem Shape.int_inv (h:Shape ti t ds) (hx:ti t=some x) (hd:x.desc= .int k):∃n,ds=[.int k n]∧(Lit.int k n).wf=true:=by
 cases h<;>simp_all
theorem Shape.str_inv (h:Shape ti t ds) (hx:ti t=some x) (hd:x.desc= .string):∃s,ds=[.str s]∧s.size≤maxLen:=by
 cases h<;>simp_all
theorem Shape.slice_inv (h:Shape ti t ds) (hx:ti t=some x) (hd:x.desc= .slice e) (hy:ti e=some y):
  ∃rows,ds=[.list (rowD y.desc) y.size rows]∧rows.length≤maxLen∧(∀r∈rows,r.fits (rowD y.desc) y.size)∧∀r∈rows,Shape ti e r.cells:=by
 cases h with
 | slice rows h1 h2 h3 h4 h5 h6=>
  rw[hx]at h1
  obtain rfl:=Option.some.inj h1
  rw[hd]at h2
  obtain rfl:=TypeDesc.slice.inj h2
  rw[hy]at h3
  obtain rfl:=Option.some.inj h3
  exact⟨rows,rfl,h4,h5,h6⟩
 | _=>simp_all
theorem Shape.struct_inv (h:Shape ti t ds) (hx:ti t=some x) (hd:x.desc= .struct fs):
  ds.length=x.size∧(∀c∈ds,c.isAgg=false)∧∀f∈fs.toList,∀y,ti f.type=some y→Shape ti f.type ((ds.drop f.offset).take y.size):=by
 cases h with
 | struct ds h1 h2 h3 h4 h5=>
  rw[hx]at h1
  obtain rfl:=Option.some.inj h1
  rw[hd]at h2
  obtain rfl:=TypeDesc.struct.inj h2
  exact⟨h3,h4,h5⟩
 | _=>simp_all
end
open Classical in
theorem AllR.same (L L':List D):AllR L L' (fun i=>decide (L[i]?=L'[i]?)) (decide (L=L')) where
 len h:=by rw[decide_eq_false_iff_not];rintro rfl;exact h rfl
 bad i h1 h2 h:=by
  rw[decide_eq_false_iff_not]at h ⊢
  rintro rfl;exact h rfl
 good h1 h2:=by
  rw[decide_eq_true_iff]
  refine List.ext_getElem? fun i=>?_
  by_cases hi:i<L.length
  ·exact of_decide_eq_true (h2 i hi)
  ·rw[List.getElem?_eq_none (by omega),List.getElem?_eq_none (by omega)]
def tyD (ti:Types) (t:TypeId):TI:=
 match ti t with
 | some x=>x
 | none=>⟨.bool,0,0,.bool false,[]⟩
theorem bytes_eq {a b:ByteArray}:(a.toList==b.toList)=true↔a=b:=by
 constructor
 ·intro h
  have h:=beq_iff_eq.1 h
  rw[ByteArray.toList_eq,ByteArray.toList_eq]at h
  exact ByteArray.ext (Array.ext' h)
 ·rintro rfl;simp
theorem bytes_ne {a b:ByteArray}:(a.toList==b.toList)=false↔a≠b:=by
 rw[←Bool.not_eq_true,bytes_eq]
end Go.AM
namespace Go.AM
open Go
section
variable {α γ:Type}
def letF (z:Int) (k:Int→Option γ):Option γ:=k z
theorem letF_inv {z:Int}{k:Int→Option γ}{r:γ}(h:letF z k=some r):∃y,z=y∧k y=some r:=⟨z,rfl,h⟩
def lenF (L:List D) (k:Int→Option γ):Option γ:=k L.length
theorem lenF_inv (M:Mach) {L:List D}{k:Int→Option γ}{r:γ}(h:lenF L k=some r):∃y,M.lenI L=y∧k y=some r:=⟨L.length,M.lenI_eq L,h⟩
def szF (s:ByteArray) (k:Int→Option γ):Option γ:=k s.size
theorem szF_inv (M:Mach) {s:ByteArray}{k:Int→Option γ}{r:γ}(h:szF s k=some r):∃y,M.szI s=y∧k y=some r:=⟨s.size,M.szI_eq s,h⟩
def getF (L:List D) (i:Int) (k:D→Option γ):Option γ:=if 0≤i then (match L[i.toNat]? with | some x=>k x | none=>none)else none
theorem getF_inv {L:List D}{i:Int}{k:D→Option γ}{r:γ}(h:getF L i k=some r):∃x,(0≤i∧L[i.toNat]?=some x)∧k x=some r:=by
 unfold getF at h
 split at h
 ·rename_i h0
  split at h
  ·rename_i x hx
   exact⟨x,⟨h0,hx⟩,h⟩
  ·cases h
 ·cases h
theorem getF_some {L:List D}{i:Int}{k:D→Option γ}{x:D}(h0:0≤i) (hx:L[i.toNat]?=some x):getF L i k=k x:=by
 unfold getF
 rw[if_pos h0,hx]
def needF (p:Prop) [Decidable p] (x:Option γ):Option γ:=if p then x else none
theorem needF_inv {p:Prop} [Decidable p] {x:Option γ}{r:γ}(h:needF p x=some r):p∧x=some r:=by
 unfold needF at h
 split at h
 ·rename_i hp
  exact⟨hp,h⟩
 ·cases h
theorem ite_t {p:Prop} [Decidable p] {x y r:Option γ}(hp:p) (h:(if p then x else y)=r):x=r:=by rwa [if_pos hp]at h
theorem ite_f {p:Prop} [Decidable p] {x y r:Option γ}(hp:¬p) (h:(if p then x else y)=r):y=r:=by rwa [if_neg hp]at h
def appF (b:Nat) (L M:List D) (k:List D→Option γ):Option γ:=if L.length+M.length≤maxLen∧(L.length+M.length)*b≤140737488355328 then k (L++M)else none
theorem appF_inv {b:Nat}{L M:List D}{k:List D→Option γ}{r:γ}(h:appF b L M k=some r):∃out,(L.length+M.length≤maxLen∧(L.length+M.length)*b≤140737488355328)∧L++M=out∧k out=some r:=by
 unfold appF at h
 split at h
 ·rename_i hb
  exact⟨_,hb,rfl,h⟩
 ·cases h
open Classical in
noncomputable def nilF (L:List D) (A B:Option γ):Option γ:=if L=[]then (if A=B then B else none)else B
theorem nilF_inv {L:List D}{A B:Option γ}{r:γ}(h:nilF L A B=some r):B=some r∧(L=[]→A=some r):=by
 unfold nilF at h
 split at h
 ·split at h
  ·rename_i e;exact⟨h,fun _=>e▸h⟩
  ·cases h
 ·rename_i hn;exact⟨h,fun e=>absurd e hn⟩
theorem nilF_eq {L:List D}{A B:Option γ}(h:L=[]→A=B):nilF L A B=B:=by
 unfold nilF
 split
 ·rename_i e;rw[if_pos (h e)]
 ·rfl
theorem nil_both {L:List D}{K0 K1:Prop}(h0:K0) (h1:L=[]→K1):(L≠[]→K0)∧(L=[]→K1∧K0):=⟨fun _=>h0,fun e=>⟨h1 e,h0⟩⟩
def setF (L:List D) (i:Nat) (x:D) (k:List D→Option γ):Option γ:=k (L.set i x)
theorem setF_inv {L:List D}{i:Nat}{x:D}{k:List D→Option γ}{r:γ}(h:setF L i x k=some r):∃out,L.set i x=out∧k out=some r:=⟨_,rfl,h⟩
def getN (L:List D) (i:Nat) (k:D→Option γ):Option γ:=match L[i]? with | some x=>k x | none=>none
theorem getN_inv {L:List D}{i:Nat}{k:D→Option γ}{r:γ}(h:getN L i k=some r):∃x,L[i]?=some x∧k x=some r:=by
 unfold getN at h
 split at h
 ·rename_i x hx
  exact⟨x,hx,h⟩
 ·cases h
def bO0 (x:Option Unit) (k:Option γ):Option γ:=match x with | some _=>k | none=>none
theorem bO0_inv {x:Option Unit}{k:Option γ}{r:γ}(h:bO0 x k=some r):x=some ()∧k=some r:=by
 cases x with
 | none=>cases h
 | some u=>exact⟨rfl,h⟩
def bO1 {A1:Type}(x:Option (A1)) (k:A1→Option γ):Option γ:=match x with | some p=>k p | none=>none
theorem bO1_inv {A1:Type}{x:Option (A1)}{k:A1→Option γ}{r:γ}(h:bO1 x k=some r):∃a1,x=some a1∧k a1=some r:=by
 cases x with
 | none=>cases h
 | some p=>exact⟨_,rfl,h⟩
def bO2 {A1 A2:Type}(x:Option (A1×A2)) (k:A1→A2→Option γ):Option γ:=match x with | some p=>k p.1 p.2 | none=>none
theorem bO2_inv {A1 A2:Type}{x:Option (A1×A2)}{k:A1→A2→Option γ}{r:γ}(h:bO2 x k=some r):∃a1 a2,x=some (a1,a2)∧k a1 a2=some r:=by
 cases x with
 | none=>cases h
 | some p=>exact⟨_,_,rfl,h⟩
theorem inj2 {A1 A2:Type}{a1 b1:A1}{a2 b2:A2}(h:some (a1,a2)=some (b1,b2)):a1=b1∧a2=b2:=by
 cases h
 exact⟨rfl,rfl⟩
def bO4 {A1 A2 A3 A4:Type}(x:Option (A1×A2×A3×A4)) (k:A1→A2→A3→A4→Option γ):Option γ:=match x with | some p=>k p.1 p.2.1 p.2.2.1 p.2.2.2 | none=>none
theorem bO4_inv {A1 A2 A3 A4:Type}{x:Option (A1×A2×A3×A4)}{k:A1→A2→A3→A4→Option γ}{r:γ}(h:bO4 x k=some r):∃a1 a2 a3 a4,x=some (a1,a2,a3,a4)∧k a1 a2 a3 a4=some r:=by
 cases x with
 | none=>cases h
 | some p=>exact⟨_,_,_,_,rfl,h⟩
theorem inj4 {A1 A2 A3 A4:Type}{a1 b1:A1}{a2 b2:A2}{a3 b3:A3}{a4 b4:A4}(h:some (a1,a2,a3,a4)=some (b1,b2,b3,b4)):a1=b1∧a2=b2∧a3=b3∧a4=b4:=by
 cases h
 exact⟨rfl,rfl,rfl,rfl⟩
def bO5 {A1 A2 A3 A4 A5:Type}(x:Option (A1×A2×A3×A4×A5)) (k:A1→A2→A3→A4→A5→Option γ):Option γ:=match x with | some p=>k p.1 p.2.1 p.2.2.1 p.2.2.2.1 p.2.2.2.2 | none=>none
theorem bO5_inv {A1 A2 A3 A4 A5:Type}{x:Option (A1×A2×A3×A4×A5)}{k:A1→A2→A3→A4→A5→Option γ}{r:γ}(h:bO5 x k=some r):∃a1 a2 a3 a4 a5,x=some (a1,a2,a3,a4,a5)∧k a1 a2 a3 a4 a5=some r:=by
 cases x with
 | none=>cases h
 | some p=>exact⟨_,_,_,_,_,rfl,h⟩
theorem inj5 {A1 A2 A3 A4 A5:Type}{a1 b1:A1}{a2 b2:A2}{a3 b3:A3}{a4 b4:A4}{a5 b5:A5}(h:some (a1,a2,a3,a4,a5)=some (b1,b2,b3,b4,b5)):a1=b1∧a2=b2∧a3=b3∧a4=b4∧a5=b5:=by
 cases h
 exact⟨rfl,rfl,rfl,rfl,rfl⟩
def bO6 {A1 A2 A3 A4 A5 A6:Type}(x:Option (A1×A2×A3×A4×A5×A6)) (k:A1→A2→A3→A4→A5→A6→Option γ):Option γ:=match x with | some p=>k p.1 p.2.1 p.2.2.1 p.2.2.2.1 p.2.2.2.2.1 p.2.2.2.2.2 | none=>none
theorem bO6_inv {A1 A2 A3 A4 A5 A6:Type}{x:Option (A1×A2×A3×A4×A5×A6)}{k:A1→A2→A3→A4→A5→A6→Option γ}{r:γ}(h:bO6 x k=some r):∃a1 a2 a3 a4 a5 a6,x=some (a1,a2,a3,a4,a5,a6)∧k a1 a2 a3 a4 a5 a6=some r:=by
 cases x with
 | none=>cases h
 | some p=>exact⟨_,_,_,_,_,_,rfl,h⟩
theorem inj6 {A1 A2 A3 A4 A5 A6:Type}{a1 b1:A1}{a2 b2:A2}{a3 b3:A3}{a4 b4:A4}{a5 b5:A5}{a6 b6:A6}(h:some (a1,a2,a3,a4,a5,a6)=some (b1,b2,b3,b4,b5,b6)):a1=b1∧a2=b2∧a3=b3∧a4=b4∧a5=b5∧a6=b6:=by
 cases h
 exact⟨rfl,rfl,rfl,rfl,rfl,rfl⟩
def bO8 {A1 A2 A3 A4 A5 A6 A7 A8:Type}(x:Option (A1×A2×A3×A4×A5×A6×A7×A8)) (k:A1→A2→A3→A4→A5→A6→A7→A8→Option γ):Option γ:=match x with | some p=>k p.1 p.2.1 p.2.2.1 p.2.2.2.1 p.2.2.2.2.1 p.2.2.2.2.2.1 p.2.2.2.2.2.2.1 p.2.2.2.2.2.2.2 | none=>none
theorem bO8_inv {A1 A2 A3 A4 A5 A6 A7 A8:Type}{x:Option (A1×A2×A3×A4×A5×A6×A7×A8)}{k:A1→A2→A3→A4→A5→A6→A7→A8→Option γ}{r:γ}(h:bO8 x k=some r):∃a1 a2 a3 a4 a5 a6 a7 a8,x=some (a1,a2,a3,a4,a5,a6,a7,a8)∧k a1 a2 a3 a4 a5 a6 a7 a8=some r:=by
 cases x with
 | none=>cases h
 | some p=>exact⟨_,_,_,_,_,_,_,_,rfl,h⟩
theorem inj8 {A1 A2 A3 A4 A5 A6 A7 A8:Type}{a1 b1:A1}{a2 b2:A2}{a3 b3:A3}{a4 b4:A4}{a5 b5:A5}{a6 b6:A6}{a7 b7:A7}{a8 b8:A8}(h:some (a1,a2,a3,a4,a5,a6,a7,a8)=some (b1,b2,b3,b4,b5,b6,b7,b8)):a1=b1∧a2=b2∧a3=b3∧a4=b4∧a5=b5∧a6=b6∧a7=b7∧a8=b8:=by
 cases h
 exact⟨rfl,rfl,rfl,rfl,rfl,rfl,rfl,rfl⟩
def bO10 {A1 A2 A3 A4 A5 A6 A7 A8 A9 A10:Type}(x:Option (A1×A2×A3×A4×A5×A6×A7×A8×A9×A10)) (k:A1→A2→A3→A4→A5→A6→A7→A8→A9→A10→Option γ):Option γ:=match x with | some p=>k p.1 p.2.1 p.2.2.1 p.2.2.2.1 p.2.2.2.2.1 p.2.2.2.2.2.1 p.2.2.2.2.2.2.1 p.2.2.2.2.2.2.2.1 p.2.2.2.2.2.2.2.2.1 p.2.2.2.2.2.2.2.2.2 | none=>none
theorem bO10_inv {A1 A2 A3 A4 A5 A6 A7 A8 A9 A10:Type}{x:Option (A1×A2×A3×A4×A5×A6×A7×A8×A9×A10)}{k:A1→A2→A3→A4→A5→A6→A7→A8→A9→A10→Option γ}{r:γ}(h:bO10 x k=some r):∃a1 a2 a3 a4 a5 a6 a7 a8 a9 a10,x=some (a1,a2,a3,a4,a5,a6,a7,a8,a9,a10)∧k a1 a2 a3 a4 a5 a6 a7 a8 a9 a10=some r:=by
 cases x with
 | none=>cases h
 | some p=>exact⟨_,_,_,_,_,_,_,_,_,_,rfl,h⟩
theorem inj10 {A1 A2 A3 A4 A5 A6 A7 A8 A9 A10:Type}{a1 b1:A1}{a2 b2:A2}{a3 b3:A3}{a4 b4:A4}{a5 b5:A5}{a6 b6:A6}{a7 b7:A7}{a8 b8:A8}{a9 b9:A9}{a10 b10:A10}(h:some (a1,a2,a3,a4,a5,a6,a7,a8,a9,a10)=some (b1,b2,b3,b4,b5,b6,b7,b8,b9,b10)):a1=b1∧a2=b2∧a3=b3∧a4=b4∧a5=b5∧a6=b6∧a7=b7∧a8=b8∧a9=b9∧a10=b10:=by
 cases h
 exact⟨rfl,rfl,rfl,rfl,rfl,rfl,rfl,rfl,rfl,rfl⟩
end
end Go.AM
namespace Go.AM
open Go
def sI (n:Nat) (z:Int):Nat×AV:=(n,.v (.d (.int .i64 z)))
def sU (n:Nat) (z:Int):Nat×AV:=(n,.v (.d (.int .u8 z)))
def sB (n:Nat) (b:Bool):Nat×AV:=(n,.v (.d (.bool b)))
def sT (n s:Nat) (l:List D):Nat×AV:=(n,.v (.d (.list true s l)))
def sF (n s:Nat) (l:List D):Nat×AV:=(n,.v (.d (.list false s l)))
def sL (n i:Nat):Nat×AV:=(n,.v (.c (.ptr (.loc i) 0)))
def sE (n i:Nat):Nat×AV:=(n,.v (.c (.ptr (.ext i) 0)))
def sS (n:Nat) (b:ByteArray):Nat×AV:=(n,.v (.d (.str b)))
abbrev LD:=List D
abbrev BA:=ByteArray
theorem itT {γ:Type}{x y r:Option γ}(h:(if true=true then x else y)=r):x=r:=h
theorem itF {γ:Type}{x y r:Option γ}(h:(if false=true then x else y)=r):y=r:=h
end Go.AM
namespace Go.AM
open Go
def Ev {α:Type}(A:Nat→Option α) (r:α):Prop:=∃N,∀n,N≤n→A n=some r
section
variable {α β γ:Type}
theorem Ev.ret {r:α}:Ev (fun _=>some r) r:=⟨0,fun _ _=>rfl⟩
theorem Ev.of {A:Nat→Option α}{r:α}(h:∀n,A n=some r):Ev A r:=⟨0,fun n _=>h n⟩
theorem Ev.succ {A:Nat→Option α}{r:α}(h:Ev (fun n=>A (n+1)) r):Ev A r:=by
 obtain⟨N,h⟩:=h
 refine⟨N+1,fun n hn=>?_⟩
 obtain⟨m,rfl⟩:∃m,n=m+1:=⟨n - 1,by omega⟩
 exact h m (by omega)
theorem Ev.congr {A B:Nat→Option α}{r:α}(h:Ev A r) (e:∀n,A n=B n):Ev B r:=by
 obtain⟨N,h⟩:=h
 exact⟨N,fun n hn=>(e n)▸h n hn⟩
theorem Ev.bO0 {A:Nat→Option Unit}{k:Nat→Option γ}{r:γ}(ha:Ev A ()) (hk:Ev k r):Ev (fun n=>bO0 (A n) (k n)) r:=by
 obtain⟨N,ha⟩:=ha
 obtain⟨M,hk⟩:=hk
 refine⟨N+M,fun n hn=>?_⟩
 show Go.AM.bO0 (A n) (k n)=some r
 rw[ha n (by omega)]
 exact hk n (by omega)
theorem Ev.bO1 {A:Nat→Option α}{a:α}{k:Nat→α→Option γ}{r:γ}(ha:Ev A a) (hk:Ev (fun n=>k n a) r):Ev (fun n=>bO1 (A n) (k n)) r:=by
 obtain⟨N,ha⟩:=ha
 obtain⟨M,hk⟩:=hk
 refine⟨N+M,fun n hn=>?_⟩
 show Go.AM.bO1 (A n) (k n)=some r
 rw[ha n (by omega)]
 exact hk n (by omega)
theorem Ev.bO2 {A:Nat→Option (α×β)}{a:α}{b:β}{k:Nat→α→β→Option γ}{r:γ}(ha:Ev A (a,b)) (hk:Ev (fun n=>k n a b) r):Ev (fun n=>bO2 (A n) (k n)) r:=by
 obtain⟨N,ha⟩:=ha
 obtain⟨M,hk⟩:=hk
 refine⟨N+M,fun n hn=>?_⟩
 show Go.AM.bO2 (A n) (k n)=some r
 rw[ha n (by omega)]
 exact hk n (by omega)
theorem Ev.run {A:Nat→Option α}{r:α}(h:Ev A r):∃n,A n=some r:=let ⟨N,h⟩:=h;⟨N,h N (Nat.le_refl _)⟩
theorem down {P:Nat→Prop}(N:Nat) (h0:P N) (h:∀i,i<N→P (i+1)→P i):∀i,i≤N→P i:=by
 intro i hi
 obtain⟨d,hd⟩:∃d,d=N - i:=⟨_,rfl⟩
 induction d generalizing i with
 | zero=>
      obtain rfl:i=N:=by omega
      exact h0
 | succ d ih=>exact h i (by omega) (ih (i+1) (by omega) (by omega))
end
section
variable {γ:Type}
theorem getF_nat {L:List D}{i:Nat}{x:D}{k:D→Option γ}(hx:L[i]?=some x):getF L (i:Int) k=k x:=getF_some (by omega) (by simpa using hx)
theorem wrap_i64' {x:Int}(h: -9223372036854775808≤x∧x≤9223372036854775807):IntKind.i64.wrap x=x:=IntWalk.i64_in x h
theorem wrap_succ {i N:Nat}(h:i<N) (hN:N≤maxLen):IntKind.i64.wrap ((i:Int)+1)=((i+1:Nat):Int):=by
 have:maxLen=9223372036854775807:=rfl
 rw[wrap_i64' (by omega)];omega
end
def RowS (ti:Types) (e:TypeId) (x:D):Prop:=Shape ti e x.cells∧∀y,ti e=some y→x.isAgg=rowD y.desc
def ListS (ti:Types) (e:TypeId) (L:List D):Prop:=L.length≤maxLen∧∀x∈L,RowS ti e x
theorem ListS.get {ti:Types}{e:TypeId}{L:List D}{i:Nat}(h:ListS ti e L) (hi:i<L.length):∃x,L[i]?=some x∧x∈L∧RowS ti e x:=
 ⟨L[i],List.getElem?_eq_getElem hi,List.getElem_mem hi,h.2 _ (List.getElem_mem hi)⟩
def flatFs (ti:Types) (rec:TypeId→Option (List TypeId)):Nat→List Field→Option (List TypeId)
 | _,[]=>some []
 | off,f::r=>match Nat.beq f.offset off with
  | false=>none
  | true=>match ti f.type with
   | none=>none
   | some y=>match rec f.type with
    | none=>none
    | some l=>match Nat.beq l.length y.size with
     | false=>none
     | true=>match flatFs ti rec (off+y.size) r with
      | none=>none
      | some l'=>some (l++l')
def flatT (ti:Types):Nat→TypeId→Option (List TypeId)
 | 0,_=>none
 | n+1,t=>match ti t with
  | none=>none
  | some x=>match x.desc with
   | .struct fs=>match flatFs ti (flatT ti n) 0 fs.toList with
    | none=>none
    | some l=>match Nat.beq l.length x.size with
     | true=>some l
     | false=>none
   | .array ..=>none
   | _=>some [t]
theorem Shape.one {ti:Types}{t:TypeId}{x:TI}{ds:List D}(h:Shape ti t ds) (hx:ti t=some x) (hd:∀fs,x.desc≠ .struct fs):∃c,ds=[c]:=by
 cases h with
 | struct ds h1 h2=>rw[hx]at h1;obtain rfl:=Option.some.inj h1;exact absurd h2 (hd _)
 | _=>exact⟨_,rfl⟩
theorem flatFs_ok {ti:Types}{rec:TypeId→Option (List TypeId)}{ds:List D}
  (hrec:∀t ls cs,rec t=some ls→Shape ti t cs→cs.length=ls.length∧∀(j:Nat) c tl,cs[j]?=some c→ls[j]?=some tl→Shape ti tl [c]):
  ∀(fs:List Field) (off:Nat) (ls:List TypeId),flatFs ti rec off fs=some ls→(∀f∈fs,∀y,ti f.type=some y→Shape ti f.type ((ds.drop f.offset).take y.size))→
   ∀(j:Nat) c tl,ds[off+j]?=some c→ls[j]?=some tl→Shape ti tl [c]
 | [],off,ls,h,_,j,c,tl,_,hl=>by
  cases h;simp at hl
 | f::fs,off,ls,h,hs,j,c,tl,hc,hl=>by
  unfold flatFs at h
  split at h
  ·cases h
  ·rename_i ho
   have ho:=Nat.eq_of_beq_eq_true ho
   split at h
   ·cases h
   ·rename_i y hy
    split at h
    ·cases h
    ·rename_i l hr
     split at h
     ·cases h
     ·rename_i hb
      have hb:=Nat.eq_of_beq_eq_true hb
      split at h
      ·cases h
      ·rename_i l' hl'
       cases h
       obtain⟨h1,h2⟩:=hrec _ _ _ hr (hs f (by simp) y hy)
       by_cases hj:j<l.length
       ·rw[List.getElem?_append_left hj]at hl
        refine h2 j c tl ?_ hl
        rw[List.getElem?_take,if_pos (by omega),List.getElem?_drop,ho]
        exact hc
       ·rw[List.getElem?_append_right (by omega)]at hl
        refine flatFs_ok hrec fs _ l' hl' (fun f' hf'=>hs f' (List.mem_cons_of_mem _ hf')) (j - l.length) c tl ?_ hl
        rw[←hc];congr 1;omega
theorem Shape.flat {ti:Types}:
  ∀(n:Nat) (t:TypeId) (ls:List TypeId) (ds:List D),flatT ti n t=some ls→Shape ti t ds→ds.length=ls.length∧∀(j:Nat) c tl,ds[j]?=some c→ls[j]?=some tl→Shape ti tl [c]
 | 0,t,ls,ds,h,_=>by cases h
 | n+1,t,ls,ds,h,hs=>by
  unfold flatT at h
  split at h
  ·cases h
  ·rename_i x hx
   have single:(∀fs,x.desc≠ .struct fs)→ls=[t]→ds.length=ls.length∧∀(j:Nat) c tl,ds[j]?=some c→ls[j]?=some tl→Shape ti tl [c]:=by
    rintro hd rfl
    obtain⟨c,rfl⟩:=hs.one hx hd
    refine⟨rfl,fun j c' tl h1 h2=>?_⟩
    match j with
    | 0=>simp at h1 h2;subst h1;subst h2;exact hs
    | j+1=>simp at h1
   split at h
   ·rename_i fs hd
    obtain⟨h1,_,h3⟩:=hs.struct_inv hx hd
    split at h
    ·cases h
    ·rename_i l hl
     split at h
     ·rename_i hb
      cases h
      refine⟨h1.trans (Nat.eq_of_beq_eq_true hb).symm,fun j c tl h4 h5=>?_⟩
      exact flatFs_ok (fun t ls cs h6 h7=>Shape.flat n t ls cs h6 h7) fs.toList 0 ls hl h3 j c tl (by simpa using h4) h5
     ·cases h
   ·cases h
   ·rename_i h1 h2
    cases h
    exact single h1 rfl
theorem RowS.agg {ti:Types}{e:TypeId}{x:D}{y:TI}(h:RowS ti e x) (hy:ti e=some y) (hr:rowD y.desc=true):∃cs,x= .agg cs∧Shape ti e cs:=by
 have h1:=(h.2 y hy).trans hr
 cases x<;>simp[D.isAgg]at h1
 exact⟨_,rfl,h.1⟩
theorem RowS.flat1 {ti:Types}{e:TypeId}{x:D}{y:TI}(h:RowS ti e x) (hy:ti e=some y) (hr:rowD y.desc=false):Shape ti e [x]:=by
 have h1:=(h.2 y hy).trans hr
 have h0:=h.1
 cases x<;>simp_all [D.isAgg,D.cells]
theorem Shape.listS {ti:Types}{t e:TypeId}{x y:TI}{c:D}(h:Shape ti t [c]) (hx:ti t=some x) (hd:x.desc= .slice e) (hy:ti e=some y):
  ∃L,c= .list (rowD y.desc) y.size L∧ListS ti e L:=by
 obtain⟨L,e1,h1,h2,h3⟩:=h.slice_inv hx hd hy
 refine⟨L,(List.cons.inj e1).1,h1,fun r hr=>⟨h3 r hr,fun y' hy'=>?_⟩⟩
 rw[hy]at hy'
 obtain rfl:=Option.some.inj hy'
 exact (h2 r hr).1
theorem Shape.intS {ti:Types}{t:TypeId}{x:TI}{k:IntKind}{c:D}(h:Shape ti t [c]) (hx:ti t=some x) (hd:x.desc= .int k):∃n,c= .int k n∧(Lit.int k n).wf=true:=by
 obtain⟨n,e,hw⟩:=h.int_inv hx hd
 exact⟨n,(List.cons.inj e).1,hw⟩
theorem Shape.strS {ti:Types}{t:TypeId}{x:TI}{c:D}(h:Shape ti t [c]) (hx:ti t=some x) (hd:x.desc= .string):∃s,c= .str s∧s.size≤maxLen:=by
 obtain⟨n,e,hw⟩:=h.str_inv hx hd
 exact⟨n,(List.cons.inj e).1,hw⟩
theorem size_row {ag:Bool}{sz:Nat}{L M:List D}{cs:List D}(h:D.agg cs∈L) (h2:D.list ag sz M∈cs):SizeOf.sizeOf M<SizeOf.sizeOf L:=by
 have h1:=List.sizeOf_lt_of_mem h
 have h3:=List.sizeOf_lt_of_mem h2
 simp at h1 h3
 omega
theorem list_ind {P:List D→Prop}(H:∀L,(∀M,SizeOf.sizeOf M<SizeOf.sizeOf L→P M)→P L) (L:List D):P L:=by
 obtain⟨m,hm⟩:∃m,SizeOf.sizeOf L<m:=⟨_,Nat.lt_succ_self _⟩
 induction m generalizing L with
 | zero=>omega
 | succ m ih=>exact H L (fun M hM=>ih M (by omega))
end Go.AM
namespace Go.AM
open Go
theorem Shape.row {ti:Types}{t:TypeId}{cs:List D}{y:TI}(h:Shape ti t cs) (hy:ti t=some y) (h1:rowD y.desc=true):cs.length=y.size∧∀c∈cs,c.isAgg=false:=by
 cases h with
 | struct ds h hd hl hg hr=>rw[hy]at h;cases h;exact⟨hl,hg⟩
 | bool b h hd=>rw[hy]at h;cases h;rw[hd]at h1;cases h1
 | int n h hd=>rw[hy]at h;cases h;rw[hd]at h1;cases h1
 | str s h hd=>rw[hy]at h;cases h;rw[hd]at h1;cases h1
 | slice rows h hd=>rw[hy]at h;cases h;rw[hd]at h1;cases h1
theorem Shape.cell {ti:Types}{t:TypeId}{cs:List D}{y:TI}(h:Shape ti t cs) (hy:ti t=some y) (h1:rowD y.desc=false):∃c,cs=[c]∧c.isAgg=false:=by
 cases h with
 | struct ds h hd hl hg hr=>rw[hy]at h;cases h;rw[hd]at h1;cases h1
 | bool b h hd=>exact⟨_,rfl,rfl⟩
 | int n h hd=>exact⟨_,rfl,rfl⟩
 | str s h hd=>exact⟨_,rfl,rfl⟩
 | slice rows h hd=>exact⟨_,rfl,rfl⟩
theorem RowS.fits {ti:Types}{e:TypeId}{r:D}{y:TI}(h1:TIone ti) (h:RowS ti e r) (hy:ti e=some y):r.fits (rowD y.desc) y.size:=by
 have ha:=h.2 y hy
 cases hr:rowD y.desc with
 | true=>
  obtain⟨q1,q2⟩:=h.1.row hy hr
  exact⟨by rw[ha,hr],q1,q2⟩
 | false=>
  obtain⟨c,q1,q2⟩:=h.1.cell hy hr
  exact⟨by rw[ha,hr],by rw[q1,h1 e y hy hr];rfl,by rw[q1];simpa using q2⟩
theorem ListS.shape {ti:Types}{t e:TypeId}{x y:TI}{L:List D}(h1:TIone ti) (h:ListS ti e L) (hx:ti t=some x) (hd:x.desc= .slice e) (hy:ti e=some y):Shape ti t [.list (rowD y.desc) y.size L]:=
 .slice L hx hd hy h.1 (fun r hr=>(h.2 r hr).fits h1 hy) (fun r hr=>(h.2 r hr).1)
theorem ListS.nil {ti:Types}{e:TypeId}:ListS ti e []:=⟨Nat.zero_le _,by simp⟩
theorem ListS.cons {ti:Types}{e:TypeId}{x:D}{L:List D}(hx:RowS ti e x) (h:ListS ti e L) (hl:L.length+1≤maxLen):ListS ti e (x::L):=⟨by simpa using hl,fun y hy=>by
 rcases List.mem_cons.1 hy with rfl | hy
 ·exact hx
 ·exact h.2 y hy⟩
theorem ListS.app {ti:Types}{e:TypeId}{L M:List D}(h:ListS ti e L) (h':ListS ti e M) (hl:L.length+M.length≤maxLen):ListS ti e (L++M):=⟨by simpa using hl,fun y hy=>by
 rcases List.mem_append.1 hy with hy | hy
 ·exact h.2 y hy
 ·exact h'.2 y hy⟩
theorem ListS.one {ti:Types}{e:TypeId}{x:D}(hx:RowS ti e x):ListS ti e [x]:=.cons hx .nil (by simp[maxLen])
theorem ListS.set {ti:Types}{e:TypeId}{L:List D}(h:ListS ti e L) (i:Nat) {x:D}(hx:RowS ti e x):ListS ti e (L.set i x):=⟨by simpa using h.1,fun y hy=>by
 rcases List.mem_or_eq_of_mem_set hy with hy | rfl
 ·exact h.2 y hy
 ·exact hx⟩
theorem ListS.take {ti:Types}{e:TypeId}{L:List D}(h:ListS ti e L) (i:Nat):ListS ti e (L.take i):=⟨by have:=h.1;simp;omega,fun x hx=>h.2 x (List.mem_of_mem_take hx)⟩
theorem ListS.drop {ti:Types}{e:TypeId}{L:List D}(h:ListS ti e L) (i:Nat):ListS ti e (L.drop i):=⟨by have:=h.1;simp;omega,fun x hx=>h.2 x (List.mem_of_mem_drop hx)⟩
theorem Ev.bO4 {A1 A2 A3 A4 γ:Type}{A:Nat→Option (A1×A2×A3×A4)}{a1:A1}{a2:A2}{a3:A3}{a4:A4}{k:Nat→A1→A2→A3→A4→Option γ}{r:γ}(ha:Ev A (a1,a2,a3,a4)) (hk:Ev (fun n=>k n a1 a2 a3 a4) r):Ev (fun n=>bO4 (A n) (k n)) r:=by
 obtain⟨N,ha⟩:=ha
 obtain⟨M,hk⟩:=hk
 refine⟨N+M,fun n hn=>?_⟩
 show Go.AM.bO4 (A n) (k n)=some r
 rw[ha n (by omega)]
 exact hk n (by omega)
theorem Ev.bO5 {A1 A2 A3 A4 A5 γ:Type}{A:Nat→Option (A1×A2×A3×A4×A5)}{a1:A1}{a2:A2}{a3:A3}{a4:A4}{a5:A5}{k:Nat→A1→A2→A3→A4→A5→Option γ}{r:γ}(ha:Ev A (a1,a2,a3,a4,a5)) (hk:Ev (fun n=>k n a1 a2 a3 a4 a5) r):Ev (fun n=>bO5 (A n) (k n)) r:=by
 obtain⟨N,ha⟩:=ha
 obtain⟨M,hk⟩:=hk
 refine⟨N+M,fun n hn=>?_⟩
 show Go.AM.bO5 (A n) (k n)=some r
 rw[ha n (by omega)]
 exact hk n (by omega)
theorem Ev.bO6 {A1 A2 A3 A4 A5 A6 γ:Type}{A:Nat→Option (A1×A2×A3×A4×A5×A6)}{a1:A1}{a2:A2}{a3:A3}{a4:A4}{a5:A5}{a6:A6}{k:Nat→A1→A2→A3→A4→A5→A6→Option γ}{r:γ}(ha:Ev A (a1,a2,a3,a4,a5,a6)) (hk:Ev (fun n=>k n a1 a2 a3 a4 a5 a6) r):Ev (fun n=>bO6 (A n) (k n)) r:=by
 obtain⟨N,ha⟩:=ha
 obtain⟨M,hk⟩:=hk
 refine⟨N+M,fun n hn=>?_⟩
 show Go.AM.bO6 (A n) (k n)=some r
 rw[ha n (by omega)]
 exact hk n (by omega)
theorem Ev.bO8 {A1 A2 A3 A4 A5 A6 A7 A8 γ:Type}{A:Nat→Option (A1×A2×A3×A4×A5×A6×A7×A8)}{a1:A1}{a2:A2}{a3:A3}{a4:A4}{a5:A5}{a6:A6}{a7:A7}{a8:A8}{k:Nat→A1→A2→A3→A4→A5→A6→A7→A8→Option γ}{r:γ}(ha:Ev A (a1,a2,a3,a4,a5,a6,a7,a8)) (hk:Ev (fun n=>k n a1 a2 a3 a4 a5 a6 a7 a8) r):Ev (fun n=>bO8 (A n) (k n)) r:=by
 obtain⟨N,ha⟩:=ha
 obtain⟨M,hk⟩:=hk
 refine⟨N+M,fun n hn=>?_⟩
 show Go.AM.bO8 (A n) (k n)=some r
 rw[ha n (by omega)]
 exact hk n (by omega)
theorem Ev.bO10 {A1 A2 A3 A4 A5 A6 A7 A8 A9 A10 γ:Type}{A:Nat→Option (A1×A2×A3×A4×A5×A6×A7×A8×A9×A10)}{a1:A1}{a2:A2}{a3:A3}{a4:A4}{a5:A5}{a6:A6}{a7:A7}{a8:A8}{a9:A9}{a10:A10}{k:Nat→A1→A2→A3→A4→A5→A6→A7→A8→A9→A10→Option γ}{r:γ}(ha:Ev A (a1,a2,a3,a4,a5,a6,a7,a8,a9,a10)) (hk:Ev (fun n=>k n a1 a2 a3 a4 a5 a6 a7 a8 a9 a10) r):Ev (fun n=>bO10 (A n) (k n)) r:=by
 obtain⟨N,ha⟩:=ha
 obtain⟨M,hk⟩:=hk
 refine⟨N+M,fun n hn=>?_⟩
 show Go.AM.bO10 (A n) (k n)=some r
 rw[ha n (by omega)]
 exact hk n (by omega)
end Go.AM
namespace Go.Proofs.Ytiiojajgajnhpaa
open Go Go.AM
def tabC0:List (Nat×TI):=[(1,⟨.func #[] #[] false,1,8,.nilFunc,[.nilf]⟩),
 (2,⟨.int .i64,1,8,.int .i64 0,[.d (.int .i64 0)]⟩),
 (3,⟨.int .i64,1,8,.int .i64 0,[.d (.int .i64 0)]⟩),
 (4,⟨.bool,1,1,.bool false,[.d (.bool false)]⟩),
 (5,⟨.int .u8,1,1,.int .u8 0,[.d (.int .u8 0)]⟩),
 (6,⟨.int .u8,1,1,.int .u8 0,[.d (.int .u8 0)]⟩),
 (7,⟨.struct #[⟨"x",2,0,false, "", "runtime",0⟩,⟨"y",3,1,false, "", "runtime",8⟩,⟨"signed",4,2,false, "", "runtime",16⟩,⟨"code",6,3,false, "", "runtime",17⟩],4,24,.agg #[.int .i64 0,.int .i64 0,.bool false,.int .u8 0],[.d (.int .i64 0),.d (.int .i64 0),.d (.bool false),.d (.int .u8 0)]⟩),
 (8,⟨.struct #[⟨"x",2,0,false, "", "runtime",0⟩,⟨"y",3,1,false, "", "runtime",8⟩,⟨"signed",4,2,false, "", "runtime",16⟩,⟨"code",6,3,false, "", "runtime",17⟩],4,24,.agg #[.int .i64 0,.int .i64 0,.bool false,.int .u8 0],[.d (.int .i64 0),.d (.int .i64 0),.d (.bool false),.d (.int .u8 0)]⟩),
 (9,⟨.string,1,16,.string ByteArray.empty,[.d (.str ByteArray.empty)]⟩),
 (10,⟨.string,1,16,.string ByteArray.empty,[.d (.str ByteArray.empty)]⟩),
 (11,⟨.string,1,16,.string ByteArray.empty,[.d (.str ByteArray.empty)]⟩),
 (12,⟨.int .u64,1,8,.int .u64 0,[.d (.int .u64 0)]⟩),
 (13,⟨.struct #[⟨"msg",9,0,false, "", "runtime",0⟩,⟨"addr",12,1,false, "", "runtime",16⟩],2,24,.agg #[.string ByteArray.empty,.int .u64 0],[.d (.str ByteArray.empty),.d (.int .u64 0)]⟩),
 (14,⟨.struct #[⟨"msg",9,0,false, "", "runtime",0⟩,⟨"addr",12,1,false, "", "runtime",16⟩],2,24,.agg #[.string ByteArray.empty,.int .u64 0],[.d (.str ByteArray.empty),.d (.int .u64 0)]⟩),
 (15,⟨.pointer 209,1,8,.pointer none,[.nilp]⟩)]
def tabC1:List (Nat×TI):=[(16,⟨.pointer 212,1,8,.pointer none,[.nilp]⟩),
 (17,⟨.pointer 221,1,8,.pointer none,[.nilp]⟩),
 (18,⟨.struct #[⟨"typ",17,0,false, "", "internal/runtime/maps",0⟩],1,8,.agg #[.pointer none],[.nilp]⟩),
 (19,⟨.struct #[⟨"typ",17,0,false, "", "internal/runtime/maps",0⟩],1,8,.agg #[.pointer none],[.nilp]⟩),
 (21,⟨.int .i32,1,4,.int .i32 0,[.d (.int .i32 0)]⟩),
 (22,⟨.slice 126,1,24,.slice none 0 0,[.nils true 16]⟩),
 (23,⟨.struct #[⟨"Items",22,0,false, "", "",0⟩],1,24,.agg #[.slice none 0 0],[.nils true 16]⟩),
 (24,⟨.struct #[⟨"Items",22,0,false, "", "",0⟩],1,24,.agg #[.slice none 0 0],[.nils true 16]⟩),
 (25,⟨.slice 27,1,24,.slice none 0 0,[.nils true 3]⟩),
 (26,⟨.struct #[⟨"Kind",5,0,false, "", "",0⟩,⟨"Name",9,1,false, "", "",8⟩,⟨"Args",25,2,false, "", "",24⟩],3,48,.agg #[.int .u8 0,.string ByteArray.empty,.slice none 0 0],[.d (.int .u8 0),.d (.str ByteArray.empty),.nils true 3]⟩),
 (27,⟨.struct #[⟨"Kind",5,0,false, "", "",0⟩,⟨"Name",9,1,false, "", "",8⟩,⟨"Args",25,2,false, "", "",24⟩],3,48,.agg #[.int .u8 0,.string ByteArray.empty,.slice none 0 0],[.d (.int .u8 0),.d (.str ByteArray.empty),.nils true 3]⟩),
 (28,⟨.slice 9,1,24,.slice none 0 0,[.nils false 1]⟩),
 (29,⟨.struct #[⟨"Name",9,0,false, "", "",0⟩,⟨"Path",28,1,false, "", "",16⟩],2,40,.agg #[.string ByteArray.empty,.slice none 0 0],[.d (.str ByteArray.empty),.nils false 1]⟩),
 (30,⟨.struct #[⟨"Name",9,0,false, "", "",0⟩,⟨"Path",28,1,false, "", "",16⟩],2,40,.agg #[.string ByteArray.empty,.slice none 0 0],[.d (.str ByteArray.empty),.nils false 1]⟩),
 (31,⟨.slice 33,1,24,.slice none 0 0,[.nils true 8]⟩)]
def tabC2:List (Nat×TI):=[(32,⟨.struct #[⟨"Op",5,0,false, "", "",0⟩,⟨"Int",2,1,false, "", "",8⟩,⟨"Name",9,2,false, "", "",16⟩,⟨"Second",9,3,false, "", "",32⟩,⟨"Place",30,4,false, "", "",48⟩,⟨"Args",31,6,false, "", "",88⟩,⟨"At",3,7,false, "", "",112⟩],8,120,.agg #[.int .u8 0,.int .i64 0,.string ByteArray.empty,.string ByteArray.empty,.string ByteArray.empty,.slice none 0 0,.slice none 0 0,.int .i64 0],[.d (.int .u8 0),.d (.int .i64 0),.d (.str ByteArray.empty),.d (.str ByteArray.empty),.d (.str ByteArray.empty),.nils false 1,.nils true 8,.d (.int .i64 0)]⟩),
 (33,⟨.struct #[⟨"Op",5,0,false, "", "",0⟩,⟨"Int",2,1,false, "", "",8⟩,⟨"Name",9,2,false, "", "",16⟩,⟨"Second",9,3,false, "", "",32⟩,⟨"Place",30,4,false, "", "",48⟩,⟨"Args",31,6,false, "", "",88⟩,⟨"At",3,7,false, "", "",112⟩],8,120,.agg #[.int .u8 0,.int .i64 0,.string ByteArray.empty,.string ByteArray.empty,.string ByteArray.empty,.slice none 0 0,.slice none 0 0,.int .i64 0],[.d (.int .u8 0),.d (.int .i64 0),.d (.str ByteArray.empty),.d (.str ByteArray.empty),.d (.str ByteArray.empty),.nils false 1,.nils true 8,.d (.int .i64 0)]⟩),
 (34,⟨.func #[24] #[4] false,1,8,.nilFunc,[.nilf]⟩),
 (35,⟨.func #[27] #[4] false,1,8,.nilFunc,[.nilf]⟩),
 (36,⟨.func #[33] #[4] false,1,8,.nilFunc,[.nilf]⟩),
 (37,⟨.func #[24,24] #[4] false,1,8,.nilFunc,[.nilf]⟩),
 (38,⟨.func #[24,24,4] #[4] false,1,8,.nilFunc,[.nilf]⟩),
 (39,⟨.func #[27,27] #[4] false,1,8,.nilFunc,[.nilf]⟩),
 (40,⟨.func #[33,33] #[4] false,1,8,.nilFunc,[.nilf]⟩),
 (41,⟨.func #[33,33,4] #[4] false,1,8,.nilFunc,[.nilf]⟩),
 (42,⟨.func #[24,24,27,27,33,33] #[4] false,1,8,.nilFunc,[.nilf]⟩),
 (43,⟨.func #[24,4] #[24] false,1,8,.nilFunc,[.nilf]⟩),
 (44,⟨.func #[24] #[24] false,1,8,.nilFunc,[.nilf]⟩),
 (45,⟨.func #[24] #[] false,1,8,.nilFunc,[.nilf]⟩),
 (46,⟨.slice 49,1,24,.slice none 0 0,[.nils true 6]⟩),
 (47,⟨.slice 3,1,24,.slice none 0 0,[.nils false 1]⟩)]
def tabC3:List (Nat×TI):=[(48,⟨.struct #[⟨"Kind",5,0,false, "", "",0⟩,⟨"Int",2,1,false, "", "",8⟩,⟨"Name",9,2,false, "", "",16⟩,⟨"Fields",46,3,false, "", "",32⟩,⟨"ID",3,4,false, "", "",56⟩,⟨"Path",47,5,false, "", "",64⟩],6,88,.agg #[.int .u8 0,.int .i64 0,.string ByteArray.empty,.slice none 0 0,.int .i64 0,.slice none 0 0],[.d (.int .u8 0),.d (.int .i64 0),.d (.str ByteArray.empty),.nils true 6,.d (.int .i64 0),.nils false 1]⟩),
 (49,⟨.struct #[⟨"Kind",5,0,false, "", "",0⟩,⟨"Int",2,1,false, "", "",8⟩,⟨"Name",9,2,false, "", "",16⟩,⟨"Fields",46,3,false, "", "",32⟩,⟨"ID",3,4,false, "", "",56⟩,⟨"Path",47,5,false, "", "",64⟩],6,88,.agg #[.int .u8 0,.int .i64 0,.string ByteArray.empty,.slice none 0 0,.int .i64 0,.slice none 0 0],[.d (.int .u8 0),.d (.int .i64 0),.d (.str ByteArray.empty),.nils true 6,.d (.int .i64 0),.nils false 1]⟩),
 (50,⟨.func #[49,49,47] #[4] false,1,8,.nilFunc,[.nilf]⟩),
 (51,⟨.func #[49] #[49] false,1,8,.nilFunc,[.nilf]⟩),
 (53,⟨.func #[49,47] #[49,5] false,1,8,.nilFunc,[.nilf]⟩),
 (55,⟨.func #[49,47] #[49,3] false,1,8,.nilFunc,[.nilf]⟩),
 (56,⟨.func #[49,47,49] #[49,5] false,1,8,.nilFunc,[.nilf]⟩),
 (57,⟨.func #[49,47,49] #[49,3] false,1,8,.nilFunc,[.nilf]⟩),
 (58,⟨.func #[49,49] #[4] false,1,8,.nilFunc,[.nilf]⟩),
 (59,⟨.func #[49] #[] false,1,8,.nilFunc,[.nilf]⟩),
 (60,⟨.struct #[⟨"Kind",3,0,false, "", "",0⟩,⟨"ID",3,1,false, "", "",8⟩,⟨"Room",3,2,false, "", "",16⟩,⟨"V",49,3,false, "", "",24⟩],9,112,.agg #[.int .i64 0,.int .i64 0,.int .i64 0,.int .u8 0,.int .i64 0,.string ByteArray.empty,.slice none 0 0,.int .i64 0,.slice none 0 0],[.d (.int .i64 0),.d (.int .i64 0),.d (.int .i64 0),.d (.int .u8 0),.d (.int .i64 0),.d (.str ByteArray.empty),.nils true 6,.d (.int .i64 0),.nils false 1]⟩),
 (61,⟨.struct #[⟨"Kind",3,0,false, "", "",0⟩,⟨"ID",3,1,false, "", "",8⟩,⟨"Room",3,2,false, "", "",16⟩,⟨"V",49,3,false, "", "",24⟩],9,112,.agg #[.int .i64 0,.int .i64 0,.int .i64 0,.int .u8 0,.int .i64 0,.string ByteArray.empty,.slice none 0 0,.int .i64 0,.slice none 0 0],[.d (.int .i64 0),.d (.int .i64 0),.d (.int .i64 0),.d (.int .u8 0),.d (.int .i64 0),.d (.str ByteArray.empty),.nils true 6,.d (.int .i64 0),.nils false 1]⟩),
 (62,⟨.func #[63] #[4] false,1,8,.nilFunc,[.nilf]⟩),
 (63,⟨.slice 61,1,24,.slice none 0 0,[.nils true 9]⟩)]
def tabC4:List (Nat×TI):=[(64,⟨.pointer 67,1,8,.pointer none,[.nilp]⟩),
 (65,⟨.map 3 161,1,8,.map none,[.nilm]⟩),
 (66,⟨.struct #[⟨"m",65,0,false, "", "weftway/queues",0⟩],1,8,.agg #[.map none],[.nilm]⟩),
 (67,⟨.struct #[⟨"m",65,0,false, "", "weftway/queues",0⟩],1,8,.agg #[.map none],[.nilm]⟩),
 (68,⟨.slice 64,1,24,.slice none 0 0,[.nils false 1]⟩),
 (69,⟨.func #[3,3] #[] false,1,8,.nilFunc,[.nilf]⟩),
 (71,⟨.func #[3] #[49,4] false,1,8,.nilFunc,[.nilf]⟩),
 (72,⟨.func #[3,49] #[4] false,1,8,.nilFunc,[.nilf]⟩),
 (73,⟨.func #[3] #[4] false,1,8,.nilFunc,[.nilf]⟩),
 (74,⟨.func #[3] #[46] false,1,8,.nilFunc,[.nilf]⟩),
 (75,⟨.func #[61] #[4] false,1,8,.nilFunc,[.nilf]⟩),
 (76,⟨.func #[] #[64] false,1,8,.nilFunc,[.nilf]⟩),
 (77,⟨.pointer 80,1,8,.pointer none,[.nilp]⟩),
 (78,⟨.slice 171,1,24,.slice none 0 0,[.nils true 3]⟩),
 (79,⟨.struct #[⟨"L",78,0,false, "", "",0⟩],1,24,.agg #[.slice none 0 0],[.nils true 3]⟩)]
def tabC5:List (Nat×TI):=[(80,⟨.struct #[⟨"L",78,0,false, "", "",0⟩],1,24,.agg #[.slice none 0 0],[.nils true 3]⟩),
 (81,⟨.func #[64,77,61] #[4] false,1,8,.nilFunc,[.nilf]⟩),
 (82,⟨.func #[] #[4] false,1,8,.nilFunc,[.nilf]⟩),
 (83,⟨.func #[46,46] #[4] false,1,8,.nilFunc,[.nilf]⟩),
 (84,⟨.func #[3,63] #[4] false,1,8,.nilFunc,[.nilf]⟩),
 (85,⟨.func #[63,3] #[4] false,1,8,.nilFunc,[.nilf]⟩),
 (86,⟨.func #[2] #[49] false,1,8,.nilFunc,[.nilf]⟩),
 (87,⟨.func #[3,3] #[4] false,1,8,.nilFunc,[.nilf]⟩),
 (88,⟨.func #[3,3,3] #[4] false,1,8,.nilFunc,[.nilf]⟩),
 (89,⟨.struct #[⟨"Kind",3,0,false, "", "",0⟩,⟨"ID",3,1,false, "", "",8⟩,⟨"Path",47,2,false, "", "",16⟩,⟨"V",49,3,false, "", "",40⟩],9,128,.agg #[.int .i64 0,.int .i64 0,.slice none 0 0,.int .u8 0,.int .i64 0,.string ByteArray.empty,.slice none 0 0,.int .i64 0,.slice none 0 0],[.d (.int .i64 0),.d (.int .i64 0),.nils false 1,.d (.int .u8 0),.d (.int .i64 0),.d (.str ByteArray.empty),.nils true 6,.d (.int .i64 0),.nils false 1]⟩),
 (90,⟨.struct #[⟨"Kind",3,0,false, "", "",0⟩,⟨"ID",3,1,false, "", "",8⟩,⟨"Path",47,2,false, "", "",16⟩,⟨"V",49,3,false, "", "",40⟩],9,128,.agg #[.int .i64 0,.int .i64 0,.slice none 0 0,.int .u8 0,.int .i64 0,.string ByteArray.empty,.slice none 0 0,.int .i64 0,.slice none 0 0],[.d (.int .i64 0),.d (.int .i64 0),.nils false 1,.d (.int .u8 0),.d (.int .i64 0),.d (.str ByteArray.empty),.nils true 6,.d (.int .i64 0),.nils false 1]⟩),
 (91,⟨.func #[92] #[4] false,1,8,.nilFunc,[.nilf]⟩),
 (92,⟨.slice 90,1,24,.slice none 0 0,[.nils true 9]⟩),
 (93,⟨.pointer 96,1,8,.pointer none,[.nilp]⟩),
 (94,⟨.map 3 173,1,8,.map none,[.nilm]⟩),
 (95,⟨.struct #[⟨"cells",94,0,false, "", "weftway/heap",0⟩,⟨"left",3,1,false, "", "weftway/heap",8⟩],2,16,.agg #[.map none,.int .i64 0],[.nilm,.d (.int .i64 0)]⟩)]
def tabC6:List (Nat×TI):=[(96,⟨.struct #[⟨"cells",94,0,false, "", "weftway/heap",0⟩,⟨"left",3,1,false, "", "weftway/heap",8⟩],2,16,.agg #[.map none,.int .i64 0],[.nilm,.d (.int .i64 0)]⟩),
 (97,⟨.slice 93,1,24,.slice none 0 0,[.nils false 1]⟩),
 (98,⟨.int .i64,1,8,.int .i64 0,[.d (.int .i64 0)]⟩),
 (100,⟨.func #[49] #[3,98] false,1,8,.nilFunc,[.nilf]⟩),
 (101,⟨.func #[3,47] #[49,5] false,1,8,.nilFunc,[.nilf]⟩),
 (102,⟨.func #[3,47,49] #[49,5] false,1,8,.nilFunc,[.nilf]⟩),
 (103,⟨.func #[3] #[49,5] false,1,8,.nilFunc,[.nilf]⟩),
 (104,⟨.func #[3,47,49] #[5] false,1,8,.nilFunc,[.nilf]⟩),
 (105,⟨.func #[] #[3] false,1,8,.nilFunc,[.nilf]⟩),
 (106,⟨.func #[90] #[4] false,1,8,.nilFunc,[.nilf]⟩),
 (107,⟨.func #[] #[93] false,1,8,.nilFunc,[.nilf]⟩),
 (108,⟨.pointer 113,1,8,.pointer none,[.nilp]⟩),
 (109,⟨.func #[] #[108] false,1,8,.nilFunc,[.nilf]⟩),
 (110,⟨.func #[93,108,90] #[4] false,1,8,.nilFunc,[.nilf]⟩),
 (111,⟨.slice 183,1,24,.slice none 0 0,[.nils true 7]⟩)]
def tabC7:List (Nat×TI):=[(112,⟨.struct #[⟨"Cells",111,0,false, "", "",0⟩],1,24,.agg #[.slice none 0 0],[.nils true 7]⟩),
 (113,⟨.struct #[⟨"Cells",111,0,false, "", "",0⟩],1,24,.agg #[.slice none 0 0],[.nils true 7]⟩),
 (114,⟨.func #[3] #[3] false,1,8,.nilFunc,[.nilf]⟩),
 (115,⟨.func #[3,92] #[4] false,1,8,.nilFunc,[.nilf]⟩),
 (116,⟨.slice 4,1,24,.slice none 0 0,[.nils false 1]⟩),
 (118,⟨.func #[93] #[46,116] false,1,8,.nilFunc,[.nilf]⟩),
 (119,⟨.func #[93,90] #[4] false,1,8,.nilFunc,[.nilf]⟩),
 (120,⟨.pointer 122,1,8,.pointer none,[.nilp]⟩),
 (121,⟨.struct #[⟨"Left",3,0,false, "", "",0⟩],1,8,.agg #[.int .i64 0],[.d (.int .i64 0)]⟩),
 (122,⟨.struct #[⟨"Left",3,0,false, "", "",0⟩],1,8,.agg #[.int .i64 0],[.d (.int .i64 0)]⟩),
 (123,⟨.slice 136,1,24,.slice none 0 0,[.nils true 4]⟩),
 (124,⟨.slice 152,1,24,.slice none 0 0,[.nils true 15]⟩),
 (125,⟨.struct #[⟨"Kind",5,0,false, "", "",0⟩,⟨"Name",9,1,false, "", "",8⟩,⟨"Fields",123,2,false, "", "",24⟩,⟨"Result",27,3,false, "", "",48⟩,⟨"Body",124,6,false, "", "",96⟩,⟨"Return",33,7,false, "", "",120⟩,⟨"At",3,15,false, "", "",240⟩],16,248,.agg #[.int .u8 0,.string ByteArray.empty,.slice none 0 0,.int .u8 0,.string ByteArray.empty,.slice none 0 0,.slice none 0 0,.int .u8 0,.int .i64 0,.string ByteArray.empty,.string ByteArray.empty,.string ByteArray.empty,.slice none 0 0,.slice none 0 0,.int .i64 0,.int .i64 0],[.d (.int .u8 0),.d (.str ByteArray.empty),.nils true 4,.d (.int .u8 0),.d (.str ByteArray.empty),.nils true 3,.nils true 15,.d (.int .u8 0),.d (.int .i64 0),.d (.str ByteArray.empty),.d (.str ByteArray.empty),.d (.str ByteArray.empty),.nils false 1,.nils true 8,.d (.int .i64 0),.d (.int .i64 0)]⟩),
 (126,⟨.struct #[⟨"Kind",5,0,false, "", "",0⟩,⟨"Name",9,1,false, "", "",8⟩,⟨"Fields",123,2,false, "", "",24⟩,⟨"Result",27,3,false, "", "",48⟩,⟨"Body",124,6,false, "", "",96⟩,⟨"Return",33,7,false, "", "",120⟩,⟨"At",3,15,false, "", "",240⟩],16,248,.agg #[.int .u8 0,.string ByteArray.empty,.slice none 0 0,.int .u8 0,.string ByteArray.empty,.slice none 0 0,.slice none 0 0,.int .u8 0,.int .i64 0,.string ByteArray.empty,.string ByteArray.empty,.string ByteArray.empty,.slice none 0 0,.slice none 0 0,.int .i64 0,.int .i64 0],[.d (.int .u8 0),.d (.str ByteArray.empty),.nils true 4,.d (.int .u8 0),.d (.str ByteArray.empty),.nils true 3,.nils true 15,.d (.int .u8 0),.d (.int .i64 0),.d (.str ByteArray.empty),.d (.str ByteArray.empty),.d (.str ByteArray.empty),.nils false 1,.nils true 8,.d (.int .i64 0),.d (.int .i64 0)]⟩),
 (127,⟨.func #[9] #[] false,1,8,.nilFunc,[.nilf]⟩)]
def tabC8:List (Nat×TI):=[(128,⟨.func #[123] #[] false,1,8,.nilFunc,[.nilf]⟩),
 (129,⟨.func #[27] #[] false,1,8,.nilFunc,[.nilf]⟩),
 (130,⟨.func #[124] #[] false,1,8,.nilFunc,[.nilf]⟩),
 (131,⟨.func #[33] #[] false,1,8,.nilFunc,[.nilf]⟩),
 (132,⟨.func #[22,22,138] #[4] false,1,8,.nilFunc,[.nilf]⟩),
 (133,⟨.func #[124,124] #[4] false,1,8,.nilFunc,[.nilf]⟩),
 (134,⟨.func #[123,123,137] #[4] false,1,8,.nilFunc,[.nilf]⟩),
 (135,⟨.struct #[⟨"Name",9,0,false, "", "",0⟩,⟨"Type",27,1,false, "", "",16⟩],4,64,.agg #[.string ByteArray.empty,.int .u8 0,.string ByteArray.empty,.slice none 0 0],[.d (.str ByteArray.empty),.d (.int .u8 0),.d (.str ByteArray.empty),.nils true 3]⟩),
 (136,⟨.struct #[⟨"Name",9,0,false, "", "",0⟩,⟨"Type",27,1,false, "", "",16⟩],4,64,.agg #[.string ByteArray.empty,.int .u8 0,.string ByteArray.empty,.slice none 0 0],[.d (.str ByteArray.empty),.d (.int .u8 0),.d (.str ByteArray.empty),.nils true 3]⟩),
 (137,⟨.func #[136,136] #[4] false,1,8,.nilFunc,[.nilf]⟩),
 (138,⟨.func #[126,126] #[4] false,1,8,.nilFunc,[.nilf]⟩),
 (139,⟨.func #[123,123] #[4] false,1,8,.nilFunc,[.nilf]⟩),
 (140,⟨.func #[124,124,4] #[4] false,1,8,.nilFunc,[.nilf]⟩),
 (141,⟨.func #[25,25,39] #[4] false,1,8,.nilFunc,[.nilf]⟩),
 (142,⟨.func #[30,30] #[4] false,1,8,.nilFunc,[.nilf]⟩),
 (143,⟨.func #[31,31,40] #[4] false,1,8,.nilFunc,[.nilf]⟩)]
def tabC9:List (Nat×TI):=[(144,⟨.func #[31,31,4] #[4] false,1,8,.nilFunc,[.nilf]⟩),
 (145,⟨.func #[123] #[123] false,1,8,.nilFunc,[.nilf]⟩),
 (146,⟨.func #[27] #[27] false,1,8,.nilFunc,[.nilf]⟩),
 (147,⟨.func #[124,4] #[124] false,1,8,.nilFunc,[.nilf]⟩),
 (148,⟨.func #[33,4] #[33] false,1,8,.nilFunc,[.nilf]⟩),
 (149,⟨.func #[24,114] #[24] false,1,8,.nilFunc,[.nilf]⟩),
 (150,⟨.slice 154,1,24,.slice none 0 0,[.nils true 3]⟩),
 (151,⟨.struct #[⟨"Op",5,0,false, "", "",0⟩,⟨"Name",9,1,false, "", "",8⟩,⟨"Second",9,2,false, "", "",24⟩,⟨"Names",28,3,false, "", "",40⟩,⟨"Type",27,4,false, "", "",64⟩,⟨"Int",2,7,false, "", "",112⟩,⟨"Place",30,8,false, "", "",120⟩,⟨"Exprs",31,10,false, "", "",160⟩,⟨"Body",124,11,false, "", "",184⟩,⟨"Else",124,12,false, "", "",208⟩,⟨"Arms",150,13,false, "", "",232⟩,⟨"At",3,14,false, "", "",256⟩],15,264,.agg #[.int .u8 0,.string ByteArray.empty,.string ByteArray.empty,.slice none 0 0,.int .u8 0,.string ByteArray.empty,.slice none 0 0,.int .i64 0,.string ByteArray.empty,.slice none 0 0,.slice none 0 0,.slice none 0 0,.slice none 0 0,.slice none 0 0,.int .i64 0],[.d (.int .u8 0),.d (.str ByteArray.empty),.d (.str ByteArray.empty),.nils false 1,.d (.int .u8 0),.d (.str ByteArray.empty),.nils true 3,.d (.int .i64 0),.d (.str ByteArray.empty),.nils false 1,.nils true 8,.nils true 15,.nils true 15,.nils true 3,.d (.int .i64 0)]⟩),
 (152,⟨.struct #[⟨"Op",5,0,false, "", "",0⟩,⟨"Name",9,1,false, "", "",8⟩,⟨"Second",9,2,false, "", "",24⟩,⟨"Names",28,3,false, "", "",40⟩,⟨"Type",27,4,false, "", "",64⟩,⟨"Int",2,7,false, "", "",112⟩,⟨"Place",30,8,false, "", "",120⟩,⟨"Exprs",31,10,false, "", "",160⟩,⟨"Body",124,11,false, "", "",184⟩,⟨"Else",124,12,false, "", "",208⟩,⟨"Arms",150,13,false, "", "",232⟩,⟨"At",3,14,false, "", "",256⟩],15,264,.agg #[.int .u8 0,.string ByteArray.empty,.string ByteArray.empty,.slice none 0 0,.int .u8 0,.string ByteArray.empty,.slice none 0 0,.int .i64 0,.string ByteArray.empty,.slice none 0 0,.slice none 0 0,.slice none 0 0,.slice none 0 0,.slice none 0 0,.int .i64 0],[.d (.int .u8 0),.d (.str ByteArray.empty),.d (.str ByteArray.empty),.nils false 1,.d (.int .u8 0),.d (.str ByteArray.empty),.nils true 3,.d (.int .i64 0),.d (.str ByteArray.empty),.nils false 1,.nils true 8,.nils true 15,.nils true 15,.nils true 3,.d (.int .i64 0)]⟩),
 (153,⟨.struct #[⟨"Variant",9,0,false, "", "",0⟩,⟨"Name",9,1,false, "", "",16⟩,⟨"Body",124,2,false, "", "",32⟩],3,56,.agg #[.string ByteArray.empty,.string ByteArray.empty,.slice none 0 0],[.d (.str ByteArray.empty),.d (.str ByteArray.empty),.nils true 15]⟩),
 (154,⟨.struct #[⟨"Variant",9,0,false, "", "",0⟩,⟨"Name",9,1,false, "", "",16⟩,⟨"Body",124,2,false, "", "",32⟩],3,56,.agg #[.string ByteArray.empty,.string ByteArray.empty,.slice none 0 0],[.d (.str ByteArray.empty),.d (.str ByteArray.empty),.nils true 15]⟩),
 (155,⟨.func #[46,3] #[3] false,1,8,.nilFunc,[.nilf]⟩),
 (156,⟨.func #[46] #[46] false,1,8,.nilFunc,[.nilf]⟩),
 (157,⟨.func #[49,3] #[5] false,1,8,.nilFunc,[.nilf]⟩),
 (158,⟨.func #[49,3] #[3] false,1,8,.nilFunc,[.nilf]⟩),
 (159,⟨.func #[49,47] #[49] false,1,8,.nilFunc,[.nilf]⟩)]
def tabC10:List (Nat×TI):=[(160,⟨.func #[47,47] #[4] false,1,8,.nilFunc,[.nilf]⟩),
 (161,⟨.pointer 165,1,8,.pointer none,[.nilp]⟩),
 (162,⟨.func #[3] #[161] false,1,8,.nilFunc,[.nilf]⟩),
 (163,⟨.array 8 49,48,704,.agg #[.int .u8 0,.int .i64 0,.string ByteArray.empty,.slice none 0 0,.int .i64 0,.slice none 0 0,.int .u8 0,.int .i64 0,.string ByteArray.empty,.slice none 0 0,.int .i64 0,.slice none 0 0,.int .u8 0,.int .i64 0,.string ByteArray.empty,.slice none 0 0,.int .i64 0,.slice none 0 0,.int .u8 0,.int .i64 0,.string ByteArray.empty,.slice none 0 0,.int .i64 0,.slice none 0 0,.int .u8 0,.int .i64 0,.string ByteArray.empty,.slice none 0 0,.int .i64 0,.slice none 0 0,.int .u8 0,.int .i64 0,.string ByteArray.empty,.slice none 0 0,.int .i64 0,.slice none 0 0,.int .u8 0,.int .i64 0,.string ByteArray.empty,.slice none 0 0,.int .i64 0,.slice none 0 0,.int .u8 0,.int .i64 0,.string ByteArray.empty,.slice none 0 0,.int .i64 0,.slice none 0 0],[.d (.int .u8 0),.d (.int .i64 0),.d (.str ByteArray.empty),.nils true 6,.d (.int .i64 0),.nils false 1,.d (.int .u8 0),.d (.int .i64 0),.d (.str ByteArray.empty),.nils true 6,.d (.int .i64 0),.nils false 1,.d (.int .u8 0),.d (.int .i64 0),.d (.str ByteArray.empty),.nils true 6,.d (.int .i64 0),.nils false 1,.d (.int .u8 0),.d (.int .i64 0),.d (.str ByteArray.empty),.nils true 6,.d (.int .i64 0),.nils false 1,.d (.int .u8 0),.d (.int .i64 0),.d (.str ByteArray.empty),.nils true 6,.d (.int .i64 0),.nils false 1,.d (.int .u8 0),.d (.int .i64 0),.d (.str ByteArray.empty),.nils true 6,.d (.int .i64 0),.nils false 1,.d (.int .u8 0),.d (.int .i64 0),.d (.str ByteArray.empty),.nils true 6,.d (.int .i64 0),.nils false 1,.d (.int .u8 0),.d (.int .i64 0),.d (.str ByteArray.empty),.nils true 6,.d (.int .i64 0),.nils false 1]⟩),
 (164,⟨.struct #[⟨"room",3,0,false, "", "weftway/queues",0⟩,⟨"first",3,1,false, "", "weftway/queues",8⟩,⟨"n",3,2,false, "", "weftway/queues",16⟩,⟨"l",163,3,false, "", "weftway/queues",24⟩],51,728,.agg #[.int .i64 0,.int .i64 0,.int .i64 0,.int .u8 0,.int .i64 0,.string ByteArray.empty,.slice none 0 0,.int .i64 0,.slice none 0 0,.int .u8 0,.int .i64 0,.string ByteArray.empty,.slice none 0 0,.int .i64 0,.slice none 0 0,.int .u8 0,.int .i64 0,.string ByteArray.empty,.slice none 0 0,.int .i64 0,.slice none 0 0,.int .u8 0,.int .i64 0,.string ByteArray.empty,.slice none 0 0,.int .i64 0,.slice none 0 0,.int .u8 0,.int .i64 0,.string ByteArray.empty,.slice none 0 0,.int .i64 0,.slice none 0 0,.int .u8 0,.int .i64 0,.string ByteArray.empty,.slice none 0 0,.int .i64 0,.slice none 0 0,.int .u8 0,.int .i64 0,.string ByteArray.empty,.slice none 0 0,.int .i64 0,.slice none 0 0,.int .u8 0,.int .i64 0,.string ByteArray.empty,.slice none 0 0,.int .i64 0,.slice none 0 0],[.d (.int .i64 0),.d (.int .i64 0),.d (.int .i64 0),.d (.int .u8 0),.d (.int .i64 0),.d (.str ByteArray.empty),.nils true 6,.d (.int .i64 0),.nils false 1,.d (.int .u8 0),.d (.int .i64 0),.d (.str ByteArray.empty),.nils true 6,.d (.int .i64 0),.nils false 1,.d (.int .u8 0),.d (.int .i64 0),.d (.str ByteArray.empty),.nils true 6,.d (.int .i64 0),.nils false 1,.d (.int .u8 0),.d (.int .i64 0),.d (.str ByteArray.empty),.nils true 6,.d (.int .i64 0),.nils false 1,.d (.int .u8 0),.d (.int .i64 0),.d (.str ByteArray.empty),.nils true 6,.d (.int .i64 0),.nils false 1,.d (.int .u8 0),.d (.int .i64 0),.d (.str ByteArray.empty),.nils true 6,.d (.int .i64 0),.nils false 1,.d (.int .u8 0),.d (.int .i64 0),.d (.str ByteArray.empty),.nils true 6,.d (.int .i64 0),.nils false 1,.d (.int .u8 0),.d (.int .i64 0),.d (.str ByteArray.empty),.nils true 6,.d (.int .i64 0),.nils false 1]⟩),
 (165,⟨.struct #[⟨"room",3,0,false, "", "weftway/queues",0⟩,⟨"first",3,1,false, "", "weftway/queues",8⟩,⟨"n",3,2,false, "", "weftway/queues",16⟩,⟨"l",163,3,false, "", "weftway/queues",24⟩],51,728,.agg #[.int .i64 0,.int .i64 0,.int .i64 0,.int .u8 0,.int .i64 0,.string ByteArray.empty,.slice none 0 0,.int .i64 0,.slice none 0 0,.int .u8 0,.int .i64 0,.string ByteArray.empty,.slice none 0 0,.int .i64 0,.slice none 0 0,.int .u8 0,.int .i64 0,.string ByteArray.empty,.slice none 0 0,.int .i64 0,.slice none 0 0,.int .u8 0,.int .i64 0,.string ByteArray.empty,.slice none 0 0,.int .i64 0,.slice none 0 0,.int .u8 0,.int .i64 0,.string ByteArray.empty,.slice none 0 0,.int .i64 0,.slice none 0 0,.int .u8 0,.int .i64 0,.string ByteArray.empty,.slice none 0 0,.int .i64 0,.slice none 0 0,.int .u8 0,.int .i64 0,.string ByteArray.empty,.slice none 0 0,.int .i64 0,.slice none 0 0,.int .u8 0,.int .i64 0,.string ByteArray.empty,.slice none 0 0,.int .i64 0,.slice none 0 0],[.d (.int .i64 0),.d (.int .i64 0),.d (.int .i64 0),.d (.int .u8 0),.d (.int .i64 0),.d (.str ByteArray.empty),.nils true 6,.d (.int .i64 0),.nils false 1,.d (.int .u8 0),.d (.int .i64 0),.d (.str ByteArray.empty),.nils true 6,.d (.int .i64 0),.nils false 1,.d (.int .u8 0),.d (.int .i64 0),.d (.str ByteArray.empty),.nils true 6,.d (.int .i64 0),.nils false 1,.d (.int .u8 0),.d (.int .i64 0),.d (.str ByteArray.empty),.nils true 6,.d (.int .i64 0),.nils false 1,.d (.int .u8 0),.d (.int .i64 0),.d (.str ByteArray.empty),.nils true 6,.d (.int .i64 0),.nils false 1,.d (.int .u8 0),.d (.int .i64 0),.d (.str ByteArray.empty),.nils true 6,.d (.int .i64 0),.nils false 1,.d (.int .u8 0),.d (.int .i64 0),.d (.str ByteArray.empty),.nils true 6,.d (.int .i64 0),.nils false 1,.d (.int .u8 0),.d (.int .i64 0),.d (.str ByteArray.empty),.nils true 6,.d (.int .i64 0),.nils false 1]⟩),
 (166,⟨.func #[] #[49] false,1,8,.nilFunc,[.nilf]⟩),
 (167,⟨.func #[203] #[] false,1,8,.nilFunc,[.nilf]⟩),
 (168,⟨.func #[203] #[] false,1,8,.nilFunc,[.nilf]⟩),
 (169,⟨.func #[] #[168] false,1,8,.nilFunc,[.nilf]⟩),
 (170,⟨.struct #[⟨"ID",3,0,false, "", "",0⟩,⟨"Room",3,1,false, "", "",8⟩,⟨"L",46,2,false, "", "",16⟩],3,40,.agg #[.int .i64 0,.int .i64 0,.slice none 0 0],[.d (.int .i64 0),.d (.int .i64 0),.nils true 6]⟩),
 (171,⟨.struct #[⟨"ID",3,0,false, "", "",0⟩,⟨"Room",3,1,false, "", "",8⟩,⟨"L",46,2,false, "", "",16⟩],3,40,.agg #[.int .i64 0,.int .i64 0,.slice none 0 0],[.d (.int .i64 0),.d (.int .i64 0),.nils true 6]⟩),
 (172,⟨.struct #[⟨"v",49,0,false, "", "weftway/heap",0⟩,⟨"freed",4,6,false, "", "weftway/heap",88⟩],7,96,.agg #[.int .u8 0,.int .i64 0,.string ByteArray.empty,.slice none 0 0,.int .i64 0,.slice none 0 0,.bool false],[.d (.int .u8 0),.d (.int .i64 0),.d (.str ByteArray.empty),.nils true 6,.d (.int .i64 0),.nils false 1,.d (.bool false)]⟩),
 (173,⟨.struct #[⟨"v",49,0,false, "", "weftway/heap",0⟩,⟨"freed",4,6,false, "", "weftway/heap",88⟩],7,96,.agg #[.int .u8 0,.int .i64 0,.string ByteArray.empty,.slice none 0 0,.int .i64 0,.slice none 0 0,.bool false],[.d (.int .u8 0),.d (.int .i64 0),.d (.str ByteArray.empty),.nils true 6,.d (.int .i64 0),.nils false 1,.d (.bool false)]⟩),
 (174,⟨.func #[3,175] #[5] false,1,8,.nilFunc,[.nilf]⟩),
 (175,⟨.func #[49] #[49,5] false,1,8,.nilFunc,[.nilf]⟩)]
def tabC11:List (Nat×TI):=[(177,⟨.func #[49] #[3,3] false,1,8,.nilFunc,[.nilf]⟩),
 (178,⟨.func #[3,47] #[49,3] false,1,8,.nilFunc,[.nilf]⟩),
 (179,⟨.func #[3,47,49] #[3] false,1,8,.nilFunc,[.nilf]⟩),
 (180,⟨.func #[3,47,49] #[49,3] false,1,8,.nilFunc,[.nilf]⟩),
 (181,⟨.func #[3] #[49,3] false,1,8,.nilFunc,[.nilf]⟩),
 (182,⟨.struct #[⟨"V",49,0,false, "", "",0⟩,⟨"Freed",4,6,false, "", "",88⟩],7,96,.agg #[.int .u8 0,.int .i64 0,.string ByteArray.empty,.slice none 0 0,.int .i64 0,.slice none 0 0,.bool false],[.d (.int .u8 0),.d (.int .i64 0),.d (.str ByteArray.empty),.nils true 6,.d (.int .i64 0),.nils false 1,.d (.bool false)]⟩),
 (183,⟨.struct #[⟨"V",49,0,false, "", "",0⟩,⟨"Freed",4,6,false, "", "",88⟩],7,96,.agg #[.int .u8 0,.int .i64 0,.string ByteArray.empty,.slice none 0 0,.int .i64 0,.slice none 0 0,.bool false],[.d (.int .u8 0),.d (.int .i64 0),.d (.str ByteArray.empty),.nils true 6,.d (.int .i64 0),.nils false 1,.d (.bool false)]⟩),
 (184,⟨.func #[28] #[] false,1,8,.nilFunc,[.nilf]⟩),
 (185,⟨.func #[30] #[] false,1,8,.nilFunc,[.nilf]⟩),
 (186,⟨.func #[124,124,187] #[4] false,1,8,.nilFunc,[.nilf]⟩),
 (187,⟨.func #[152,152] #[4] false,1,8,.nilFunc,[.nilf]⟩),
 (188,⟨.func #[28,28] #[4] false,1,8,.nilFunc,[.nilf]⟩),
 (189,⟨.func #[30] #[30] false,1,8,.nilFunc,[.nilf]⟩),
 (190,⟨.func #[33] #[33] false,1,8,.nilFunc,[.nilf]⟩),
 (191,⟨.func #[152] #[152] false,1,8,.nilFunc,[.nilf]⟩)]
def tabC12:List (Nat×TI):=[(192,⟨.func #[25,146] #[25] false,1,8,.nilFunc,[.nilf]⟩),
 (193,⟨.func #[28] #[28] false,1,8,.nilFunc,[.nilf]⟩),
 (194,⟨.func #[31,190] #[31] false,1,8,.nilFunc,[.nilf]⟩),
 (195,⟨.func #[124,191] #[124] false,1,8,.nilFunc,[.nilf]⟩),
 (196,⟨.func #[154] #[154] false,1,8,.nilFunc,[.nilf]⟩),
 (197,⟨.func #[150,196] #[150] false,1,8,.nilFunc,[.nilf]⟩),
 (198,⟨.func #[136] #[136] false,1,8,.nilFunc,[.nilf]⟩),
 (199,⟨.func #[22,201] #[22] false,1,8,.nilFunc,[.nilf]⟩),
 (200,⟨.func #[123,198] #[123] false,1,8,.nilFunc,[.nilf]⟩),
 (201,⟨.func #[126] #[126] false,1,8,.nilFunc,[.nilf]⟩),
 (202,⟨.func #[47] #[47] false,1,8,.nilFunc,[.nilf]⟩),
 (203,⟨.func #[49] #[4] false,1,8,.nilFunc,[.nilf]⟩),
 (205,⟨.func #[150,150,206] #[4] false,1,8,.nilFunc,[.nilf]⟩),
 (206,⟨.func #[154,154] #[4] false,1,8,.nilFunc,[.nilf]⟩),
 (207,⟨.func #[] #[9] false,1,8,.nilFunc,[.nilf]⟩)]
def tabC13:List (Nat×TI):=[(208,⟨.struct #[⟨"_interface",17,0,false, "", "runtime",0⟩,⟨"concrete",17,1,false, "", "runtime",8⟩,⟨"asserted",17,2,false, "", "runtime",16⟩,⟨"missingMethod",9,3,false, "", "runtime",24⟩],4,40,.agg #[.pointer none,.pointer none,.pointer none,.string ByteArray.empty],[.nilp,.nilp,.nilp,.d (.str ByteArray.empty)]⟩),
 (209,⟨.struct #[⟨"_interface",17,0,false, "", "runtime",0⟩,⟨"concrete",17,1,false, "", "runtime",8⟩,⟨"asserted",17,2,false, "", "runtime",16⟩,⟨"missingMethod",9,3,false, "", "runtime",24⟩],4,40,.agg #[.pointer none,.pointer none,.pointer none,.string ByteArray.empty],[.nilp,.nilp,.nilp,.d (.str ByteArray.empty)]⟩),
 (213,⟨.int .u32,1,4,.int .u32 0,[.d (.int .u32 0)]⟩),
 (214,⟨.int .u8,1,1,.int .u8 0,[.d (.int .u8 0)]⟩),
 (215,⟨.int .u8,1,1,.int .u8 0,[.d (.int .u8 0)]⟩),
 (216,⟨.func #[222,222] #[4] false,1,8,.nilFunc,[.nilf]⟩),
 (217,⟨.pointer 5,1,8,.pointer none,[.nilp]⟩),
 (218,⟨.int .i32,1,4,.int .i32 0,[.d (.int .i32 0)]⟩),
 (219,⟨.int .i32,1,4,.int .i32 0,[.d (.int .i32 0)]⟩),
 (220,⟨.struct #[⟨"Size_",12,0,false, "", "",0⟩,⟨"PtrBytes",12,1,false, "", "",8⟩,⟨"Hash",213,2,false, "", "",16⟩,⟨"TFlag",214,3,false, "", "",20⟩,⟨"Align_",5,4,false, "", "",21⟩,⟨"FieldAlign_",5,5,false, "", "",22⟩,⟨"Kind_",215,6,false, "", "",23⟩,⟨"Equal",216,7,false, "", "",24⟩,⟨"GCData",217,8,false, "", "",32⟩,⟨"Str",218,9,false, "", "",40⟩,⟨"PtrToThis",219,10,false, "", "",44⟩],11,48,.agg #[.int .u64 0,.int .u64 0,.int .u32 0,.int .u8 0,.int .u8 0,.int .u8 0,.int .u8 0,.nilFunc,.pointer none,.int .i32 0,.int .i32 0],[.d (.int .u64 0),.d (.int .u64 0),.d (.int .u32 0),.d (.int .u8 0),.d (.int .u8 0),.d (.int .u8 0),.d (.int .u8 0),.nilf,.nilp,.d (.int .i32 0),.d (.int .i32 0)]⟩),
 (221,⟨.struct #[⟨"Size_",12,0,false, "", "",0⟩,⟨"PtrBytes",12,1,false, "", "",8⟩,⟨"Hash",213,2,false, "", "",16⟩,⟨"TFlag",214,3,false, "", "",20⟩,⟨"Align_",5,4,false, "", "",21⟩,⟨"FieldAlign_",5,5,false, "", "",22⟩,⟨"Kind_",215,6,false, "", "",23⟩,⟨"Equal",216,7,false, "", "",24⟩,⟨"GCData",217,8,false, "", "",32⟩,⟨"Str",218,9,false, "", "",40⟩,⟨"PtrToThis",219,10,false, "", "",44⟩],11,48,.agg #[.int .u64 0,.int .u64 0,.int .u32 0,.int .u8 0,.int .u8 0,.int .u8 0,.int .u8 0,.nilFunc,.pointer none,.int .i32 0,.int .i32 0],[.d (.int .u64 0),.d (.int .u64 0),.d (.int .u32 0),.d (.int .u8 0),.d (.int .u8 0),.d (.int .u8 0),.d (.int .u8 0),.nilf,.nilp,.d (.int .i32 0),.d (.int .i32 0)]⟩)]
def tabAll:List (List (Nat×TI)):=[tabC0,tabC1,tabC2,tabC3,tabC4,tabC5,tabC6,tabC7,tabC8,tabC9,tabC10,tabC11,tabC12,tabC13]
def tab:Types:=tabOf tabAll
theorem tabG0:allGood Try.prog tabC0:=⟨⟨by kernel_rfl,by kernel_rfl,by kernel_rfl⟩,⟨by kernel_rfl,by kernel_rfl,by kernel_rfl⟩,⟨by kernel_rfl,by kernel_rfl,by kernel_rfl⟩,⟨by kernel_rfl,by kernel_rfl,by kernel_rfl⟩,⟨by kernel_rfl,by kernel_rfl,by kernel_rfl⟩,⟨by kernel_rfl,by kernel_rfl,by kernel_rfl⟩,⟨by kernel_rfl,by kernel_rfl,by kernel_rfl⟩,⟨by kernel_rfl,by kernel_rfl,by kernel_rfl⟩,⟨by kernel_rfl,by kernel_rfl,by kernel_rfl⟩,⟨by kernel_rfl,by kernel_rfl,by kernel_rfl⟩,⟨by kernel_rfl,by kernel_rfl,by kernel_rfl⟩,⟨by kernel_rfl,by kernel_rfl,by kernel_rfl⟩,⟨by kernel_rfl,by kernel_rfl,by kernel_rfl⟩,⟨by kernel_rfl,by kernel_rfl,by kernel_rfl⟩,⟨by kernel_rfl,by kernel_rfl,by kernel_rfl⟩,trivial⟩
theorem tabG1:allGood Try.prog tabC1:=⟨⟨by kernel_rfl,by kernel_rfl,by kernel_rfl⟩,⟨by kernel_rfl,by kernel_rfl,by kernel_rfl⟩,⟨by kernel_rfl,by kernel_rfl,by kernel_rfl⟩,⟨by kernel_rfl,by kernel_rfl,by kernel_rfl⟩,⟨by kernel_rfl,by kernel_rfl,by kernel_rfl⟩,⟨by kernel_rfl,by kernel_rfl,by kernel_rfl⟩,⟨by kernel_rfl,by kernel_rfl,by kernel_rfl⟩,⟨by kernel_rfl,by kernel_rfl,by kernel_rfl⟩,⟨by kernel_rfl,by kernel_rfl,by kernel_rfl⟩,⟨by kernel_rfl,by kernel_rfl,by kernel_rfl⟩,⟨by kernel_rfl,by kernel_rfl,by kernel_rfl⟩,⟨by kernel_rfl,by kernel_rfl,by kernel_rfl⟩,⟨by kernel_rfl,by kernel_rfl,by kernel_rfl⟩,⟨by kernel_rfl,by kernel_rfl,by kernel_rfl⟩,⟨by kernel_rfl,by kernel_rfl,by kernel_rfl⟩,trivial⟩
theorem tabG2:allGood Try.prog tabC2:=⟨⟨by kernel_rfl,by kernel_rfl,by kernel_rfl⟩,⟨by kernel_rfl,by kernel_rfl,by kernel_rfl⟩,⟨by kernel_rfl,by kernel_rfl,by kernel_rfl⟩,⟨by kernel_rfl,by kernel_rfl,by kernel_rfl⟩,⟨by kernel_rfl,by kernel_rfl,by kernel_rfl⟩,⟨by kernel_rfl,by kernel_rfl,by kernel_rfl⟩,⟨by kernel_rfl,by kernel_rfl,by kernel_rfl⟩,⟨by kernel_rfl,by kernel_rfl,by kernel_rfl⟩,⟨by kernel_rfl,by kernel_rfl,by kernel_rfl⟩,⟨by kernel_rfl,by kernel_rfl,by kernel_rfl⟩,⟨by kernel_rfl,by kernel_rfl,by kernel_rfl⟩,⟨by kernel_rfl,by kernel_rfl,by kernel_rfl⟩,⟨by kernel_rfl,by kernel_rfl,by kernel_rfl⟩,⟨by kernel_rfl,by kernel_rfl,by kernel_rfl⟩,⟨by kernel_rfl,by kernel_rfl,by kernel_rfl⟩,⟨by kernel_rfl,by kernel_rfl,by kernel_rfl⟩,trivial⟩
theorem tabG3:allGood Try.prog tabC3:=⟨⟨by kernel_rfl,by kernel_rfl,by kernel_rfl⟩,⟨by kernel_rfl,by kernel_rfl,by kernel_rfl⟩,⟨by kernel_rfl,by kernel_rfl,by kernel_rfl⟩,⟨by kernel_rfl,by kernel_rfl,by kernel_rfl⟩,⟨by kernel_rfl,by kernel_rfl,by kernel_rfl⟩,⟨by kernel_rfl,by kernel_rfl,by kernel_rfl⟩,⟨by kernel_rfl,by kernel_rfl,by kernel_rfl⟩,⟨by kernel_rfl,by kernel_rfl,by kernel_rfl⟩,⟨by kernel_rfl,by kernel_rfl,by kernel_rfl⟩,⟨by kernel_rfl,by kernel_rfl,by kernel_rfl⟩,⟨by kernel_rfl,by kernel_rfl,by kernel_rfl⟩,⟨by kernel_rfl,by kernel_rfl,by kernel_rfl⟩,⟨by kernel_rfl,by kernel_rfl,by kernel_rfl⟩,⟨by kernel_rfl,by kernel_rfl,by kernel_rfl⟩,trivial⟩
theorem tabG4:allGood Try.prog tabC4:=⟨⟨by kernel_rfl,by kernel_rfl,by kernel_rfl⟩,⟨by kernel_rfl,by kernel_rfl,by kernel_rfl⟩,⟨by kernel_rfl,by kernel_rfl,by kernel_rfl⟩,⟨by kernel_rfl,by kernel_rfl,by kernel_rfl⟩,⟨by kernel_rfl,by kernel_rfl,by kernel_rfl⟩,⟨by kernel_rfl,by kernel_rfl,by kernel_rfl⟩,⟨by kernel_rfl,by kernel_rfl,by kernel_rfl⟩,⟨by kernel_rfl,by kernel_rfl,by kernel_rfl⟩,⟨by kernel_rfl,by kernel_rfl,by kernel_rfl⟩,⟨by kernel_rfl,by kernel_rfl,by kernel_rfl⟩,⟨by kernel_rfl,by kernel_rfl,by kernel_rfl⟩,⟨by kernel_rfl,by kernel_rfl,by kernel_rfl⟩,⟨by kernel_rfl,by kernel_rfl,by kernel_rfl⟩,⟨by kernel_rfl,by kernel_rfl,by kernel_rfl⟩,⟨by kernel_rfl,by kernel_rfl,by kernel_rfl⟩,trivial⟩
theorem tabG5:allGood Try.prog tabC5:=⟨⟨by kernel_rfl,by kernel_rfl,by kernel_rfl⟩,⟨by kernel_rfl,by kernel_rfl,by kernel_rfl⟩,⟨by kernel_rfl,by kernel_rfl,by kernel_rfl⟩,⟨by kernel_rfl,by kernel_rfl,by kernel_rfl⟩,⟨by kernel_rfl,by kernel_rfl,by kernel_rfl⟩,⟨by kernel_rfl,by kernel_rfl,by kernel_rfl⟩,⟨by kernel_rfl,by kernel_rfl,by kernel_rfl⟩,⟨by kernel_rfl,by kernel_rfl,by kernel_rfl⟩,⟨by kernel_rfl,by kernel_rfl,by kernel_rfl⟩,⟨by kernel_rfl,by kernel_rfl,by kernel_rfl⟩,⟨by kernel_rfl,by kernel_rfl,by kernel_rfl⟩,⟨by kernel_rfl,by kernel_rfl,by kernel_rfl⟩,⟨by kernel_rfl,by kernel_rfl,by kernel_rfl⟩,⟨by kernel_rfl,by kernel_rfl,by kernel_rfl⟩,⟨by kernel_rfl,by kernel_rfl,by kernel_rfl⟩,⟨by kernel_rfl,by kernel_rfl,by kernel_rfl⟩,trivial⟩
theorem tabG6:allGood Try.prog tabC6:=⟨⟨by kernel_rfl,by kernel_rfl,by kernel_rfl⟩,⟨by kernel_rfl,by kernel_rfl,by kernel_rfl⟩,⟨by kernel_rfl,by kernel_rfl,by kernel_rfl⟩,⟨by kernel_rfl,by kernel_rfl,by kernel_rfl⟩,⟨by kernel_rfl,by kernel_rfl,by kernel_rfl⟩,⟨by kernel_rfl,by kernel_rfl,by kernel_rfl⟩,⟨by kernel_rfl,by kernel_rfl,by kernel_rfl⟩,⟨by kernel_rfl,by kernel_rfl,by kernel_rfl⟩,⟨by kernel_rfl,by kernel_rfl,by kernel_rfl⟩,⟨by kernel_rfl,by kernel_rfl,by kernel_rfl⟩,⟨by kernel_rfl,by kernel_rfl,by kernel_rfl⟩,⟨by kernel_rfl,by kernel_rfl,by kernel_rfl⟩,⟨by kernel_rfl,by kernel_rfl,by kernel_rfl⟩,⟨by kernel_rfl,by kernel_rfl,by kernel_rfl⟩,⟨by kernel_rfl,by kernel_rfl,by kernel_rfl⟩,trivial⟩
theorem tabG7:allGood Try.prog tabC7:=⟨⟨by kernel_rfl,by kernel_rfl,by kernel_rfl⟩,⟨by kernel_rfl,by kernel_rfl,by kernel_rfl⟩,⟨by kernel_rfl,by kernel_rfl,by kernel_rfl⟩,⟨by kernel_rfl,by kernel_rfl,by kernel_rfl⟩,⟨by kernel_rfl,by kernel_rfl,by kernel_rfl⟩,⟨by kernel_rfl,by kernel_rfl,by kernel_rfl⟩,⟨by kernel_rfl,by kernel_rfl,by kernel_rfl⟩,⟨by kernel_rfl,by kernel_rfl,by kernel_rfl⟩,⟨by kernel_rfl,by kernel_rfl,by kernel_rfl⟩,⟨by kernel_rfl,by kernel_rfl,by kernel_rfl⟩,⟨by kernel_rfl,by kernel_rfl,by kernel_rfl⟩,⟨by kernel_rfl,by kernel_rfl,by kernel_rfl⟩,⟨by kernel_rfl,by kernel_rfl,by kernel_rfl⟩,⟨by kernel_rfl,by kernel_rfl,by kernel_rfl⟩,⟨by kernel_rfl,by kernel_rfl,by kernel_rfl⟩,trivial⟩
theorem tabG8:allGood Try.prog tabC8:=⟨⟨by kernel_rfl,by kernel_rfl,by kernel_rfl⟩,⟨by kernel_rfl,by kernel_rfl,by kernel_rfl⟩,⟨by kernel_rfl,by kernel_rfl,by kernel_rfl⟩,⟨by kernel_rfl,by kernel_rfl,by kernel_rfl⟩,⟨by kernel_rfl,by kernel_rfl,by kernel_rfl⟩,⟨by kernel_rfl,by kernel_rfl,by kernel_rfl⟩,⟨by kernel_rfl,by kernel_rfl,by kernel_rfl⟩,⟨by kernel_rfl,by kernel_rfl,by kernel_rfl⟩,⟨by kernel_rfl,by kernel_rfl,by kernel_rfl⟩,⟨by kernel_rfl,by kernel_rfl,by kernel_rfl⟩,⟨by kernel_rfl,by kernel_rfl,by kernel_rfl⟩,⟨by kernel_rfl,by kernel_rfl,by kernel_rfl⟩,⟨by kernel_rfl,by kernel_rfl,by kernel_rfl⟩,⟨by kernel_rfl,by kernel_rfl,by kernel_rfl⟩,⟨by kernel_rfl,by kernel_rfl,by kernel_rfl⟩,⟨by kernel_rfl,by kernel_rfl,by kernel_rfl⟩,trivial⟩
theorem tabG9:allGood Try.prog tabC9:=⟨⟨by kernel_rfl,by kernel_rfl,by kernel_rfl⟩,⟨by kernel_rfl,by kernel_rfl,by kernel_rfl⟩,⟨by kernel_rfl,by kernel_rfl,by kernel_rfl⟩,⟨by kernel_rfl,by kernel_rfl,by kernel_rfl⟩,⟨by kernel_rfl,by kernel_rfl,by kernel_rfl⟩,⟨by kernel_rfl,by kernel_rfl,by kernel_rfl⟩,⟨by kernel_rfl,by kernel_rfl,by kernel_rfl⟩,⟨by kernel_rfl,by kernel_rfl,by kernel_rfl⟩,⟨by kernel_rfl,by kernel_rfl,by kernel_rfl⟩,⟨by kernel_rfl,by kernel_rfl,by kernel_rfl⟩,⟨by kernel_rfl,by kernel_rfl,by kernel_rfl⟩,⟨by kernel_rfl,by kernel_rfl,by kernel_rfl⟩,⟨by kernel_rfl,by kernel_rfl,by kernel_rfl⟩,⟨by kernel_rfl,by kernel_rfl,by kernel_rfl⟩,⟨by kernel_rfl,by kernel_rfl,by kernel_rfl⟩,⟨by kernel_rfl,by kernel_rfl,by kernel_rfl⟩,trivial⟩
theorem tabG10:allGood Try.prog tabC10:=⟨⟨by kernel_rfl,by kernel_rfl,by kernel_rfl⟩,⟨by kernel_rfl,by kernel_rfl,by kernel_rfl⟩,⟨by kernel_rfl,by kernel_rfl,by kernel_rfl⟩,⟨by kernel_rfl,by kernel_rfl,by kernel_rfl⟩,⟨by kernel_rfl,by kernel_rfl,by kernel_rfl⟩,⟨by kernel_rfl,by kernel_rfl,by kernel_rfl⟩,⟨by kernel_rfl,by kernel_rfl,by kernel_rfl⟩,⟨by kernel_rfl,by kernel_rfl,by kernel_rfl⟩,⟨by kernel_rfl,by kernel_rfl,by kernel_rfl⟩,⟨by kernel_rfl,by kernel_rfl,by kernel_rfl⟩,⟨by kernel_rfl,by kernel_rfl,by kernel_rfl⟩,⟨by kernel_rfl,by kernel_rfl,by kernel_rfl⟩,⟨by kernel_rfl,by kernel_rfl,by kernel_rfl⟩,⟨by kernel_rfl,by kernel_rfl,by kernel_rfl⟩,⟨by kernel_rfl,by kernel_rfl,by kernel_rfl⟩,⟨by kernel_rfl,by kernel_rfl,by kernel_rfl⟩,trivial⟩
theorem tabG11:allGood Try.prog tabC11:=⟨⟨by kernel_rfl,by kernel_rfl,by kernel_rfl⟩,⟨by kernel_rfl,by kernel_rfl,by kernel_rfl⟩,⟨by kernel_rfl,by kernel_rfl,by kernel_rfl⟩,⟨by kernel_rfl,by kernel_rfl,by kernel_rfl⟩,⟨by kernel_rfl,by kernel_rfl,by kernel_rfl⟩,⟨by kernel_rfl,by kernel_rfl,by kernel_rfl⟩,⟨by kernel_rfl,by kernel_rfl,by kernel_rfl⟩,⟨by kernel_rfl,by kernel_rfl,by kernel_rfl⟩,⟨by kernel_rfl,by kernel_rfl,by kernel_rfl⟩,⟨by kernel_rfl,by kernel_rfl,by kernel_rfl⟩,⟨by kernel_rfl,by kernel_rfl,by kernel_rfl⟩,⟨by kernel_rfl,by kernel_rfl,by kernel_rfl⟩,⟨by kernel_rfl,by kernel_rfl,by kernel_rfl⟩,⟨by kernel_rfl,by kernel_rfl,by kernel_rfl⟩,⟨by kernel_rfl,by kernel_rfl,by kernel_rfl⟩,trivial⟩
theorem tabG12:allGood Try.prog tabC12:=⟨⟨by kernel_rfl,by kernel_rfl,by kernel_rfl⟩,⟨by kernel_rfl,by kernel_rfl,by kernel_rfl⟩,⟨by kernel_rfl,by kernel_rfl,by kernel_rfl⟩,⟨by kernel_rfl,by kernel_rfl,by kernel_rfl⟩,⟨by kernel_rfl,by kernel_rfl,by kernel_rfl⟩,⟨by kernel_rfl,by kernel_rfl,by kernel_rfl⟩,⟨by kernel_rfl,by kernel_rfl,by kernel_rfl⟩,⟨by kernel_rfl,by kernel_rfl,by kernel_rfl⟩,⟨by kernel_rfl,by kernel_rfl,by kernel_rfl⟩,⟨by kernel_rfl,by kernel_rfl,by kernel_rfl⟩,⟨by kernel_rfl,by kernel_rfl,by kernel_rfl⟩,⟨by kernel_rfl,by kernel_rfl,by kernel_rfl⟩,⟨by kernel_rfl,by kernel_rfl,by kernel_rfl⟩,⟨by kernel_rfl,by kernel_rfl,by kernel_rfl⟩,⟨by kernel_rfl,by kernel_rfl,by kernel_rfl⟩,trivial⟩
theorem tabG13:allGood Try.prog tabC13:=⟨⟨by kernel_rfl,by kernel_rfl,by kernel_rfl⟩,⟨by kernel_rfl,by kernel_rfl,by kernel_rfl⟩,⟨by kernel_rfl,by kernel_rfl,by kernel_rfl⟩,⟨by kernel_rfl,by kernel_rfl,by kernel_rfl⟩,⟨by kernel_rfl,by kernel_rfl,by kernel_rfl⟩,⟨by kernel_rfl,by kernel_rfl,by kernel_rfl⟩,⟨by kernel_rfl,by kernel_rfl,by kernel_rfl⟩,⟨by kernel_rfl,by kernel_rfl,by kernel_rfl⟩,⟨by kernel_rfl,by kernel_rfl,by kernel_rfl⟩,⟨by kernel_rfl,by kernel_rfl,by kernel_rfl⟩,⟨by kernel_rfl,by kernel_rfl,by kernel_rfl⟩,trivial⟩
theorem tab_all:allGoods Try.prog tabAll:=⟨tabG0,tabG1,tabG2,tabG3,tabG4,tabG5,tabG6,tabG7,tabG8,tabG9,tabG10,tabG11,tabG12,tabG13,trivial⟩
theorem tab_ok:TIok Try.prog tab:=tabOf_ok tab_all
theorem tab_one:TIone tab:=tabOf_one tab_all
end Go.Proofs.Ytiiojajgajnhpaa
set_option linter.unusedVariables false
noncomputable section
namespace Go.Proofs.Ytiiojajgajnhpaa
open Go Go.AM
theorem llen6 {l:List D}(h:l.length=6):∃x0 x1 x2 x3 x4 x5,l=[x0,x1,x2,x3,x4,x5]:=by
 match l,h with
 | [x0,x1,x2,x3,x4,x5],_=>exact⟨x0,x1,x2,x3,x4,x5,rfl⟩
theorem llen9 {l:List D}(h:l.length=9):∃x0 x1 x2 x3 x4 x5 x6 x7 x8,l=[x0,x1,x2,x3,x4,x5,x6,x7,x8]:=by
 match l,h with
 | [x0,x1,x2,x3,x4,x5,x6,x7,x8],_=>exact⟨x0,x1,x2,x3,x4,x5,x6,x7,x8,rfl⟩
theorem rs3 {x:D}(h:RowS tab 3 x):∃a0,x= .int .i64 a0∧(Lit.int .i64 a0).wf=true:=by
 have hs:=h.flat1 (y:=tyD tab 3) (by kernel_rfl) rfl
 have hl:=hs.flat 9 3 [3] [x] (by kernel_rfl)
 obtain⟨a0,rfl,w0⟩:=(hl.2 0 x 3 rfl rfl).intS (x:=tyD tab 3) (by kernel_rfl) rfl
 exact⟨_,rfl,w0⟩
theorem rs49 {x:D}(h:RowS tab 49 x):∃a0 a1 a2 a3 a4 a5,x= .agg [.int .u8 a0,.int .i64 a1,.str a2,.list true 6 a3,.int .i64 a4,.list false 1 a5]∧(Lit.int .u8 a0).wf=true∧(Lit.int .i64 a1).wf=true∧a2.size≤maxLen∧ListS tab 49 a3∧(Lit.int .i64 a4).wf=true∧ListS tab 3 a5:=by
 obtain⟨cs,rfl,hs⟩:=h.agg (y:=tyD tab 49) (by kernel_rfl) rfl
 have hl:=hs.flat 9 49 [5,2,9,46,3,47] cs (by kernel_rfl)
 obtain⟨b0,b1,b2,b3,b4,b5,rfl⟩:=llen6 hl.1
 obtain⟨a0,rfl,w0⟩:=(hl.2 0 b0 5 rfl rfl).intS (x:=tyD tab 5) (by kernel_rfl) rfl
 obtain⟨a1,rfl,w1⟩:=(hl.2 1 b1 2 rfl rfl).intS (x:=tyD tab 2) (by kernel_rfl) rfl
 obtain⟨a2,rfl,w2⟩:=(hl.2 2 b2 9 rfl rfl).strS (x:=tyD tab 9) (by kernel_rfl) rfl
 obtain⟨a3,e3,w3⟩:=(hl.2 3 b3 46 rfl rfl).listS (x:=tyD tab 46) (y:=tyD tab 49) (by kernel_rfl) rfl (by kernel_rfl)
 obtain rfl:b3= .list true 6 a3:=e3
 obtain⟨a4,rfl,w4⟩:=(hl.2 4 b4 3 rfl rfl).intS (x:=tyD tab 3) (by kernel_rfl) rfl
 obtain⟨a5,e5,w5⟩:=(hl.2 5 b5 47 rfl rfl).listS (x:=tyD tab 47) (y:=tyD tab 3) (by kernel_rfl) rfl (by kernel_rfl)
 obtain rfl:b5= .list false 1 a5:=e5
 exact⟨_,_,_,_,_,_,rfl,w0,w1,w2,w3,w4,w5⟩
end Go.Proofs.Ytiiojajgajnhpaa
end
set_option linter.unusedVariables false
noncomputable section
namespace Go.Proofs.Ytiiojajgajnhpaa
open Go Go.AM
theorem sm9 {a0:ByteArray}(w0:a0.size≤maxLen):Shape tab 9 [.str a0]:=.str (x:=tyD tab 9) a0 (by kernel_rfl) (by kernel_rfl) w0
theorem sm3 {a0:Int}(w0:(Lit.int .i64 a0).wf=true):Shape tab 3 [.int .i64 a0]:=.int (x:=tyD tab 3) a0 (by kernel_rfl) (by kernel_rfl) w0
theorem sm5 {a0:Int}(w0:(Lit.int .u8 a0).wf=true):Shape tab 5 [.int .u8 a0]:=.int (x:=tyD tab 5) a0 (by kernel_rfl) (by kernel_rfl) w0
theorem sm2 {a0:Int}(w0:(Lit.int .i64 a0).wf=true):Shape tab 2 [.int .i64 a0]:=.int (x:=tyD tab 2) a0 (by kernel_rfl) (by kernel_rfl) w0
theorem sm46 {a0:List D}(w0:ListS tab 49 a0):Shape tab 46 [.list true 6 a0]:=by
 have e:D.list (rowD (tyD tab 49).desc) (tyD tab 49).size a0= .list true 6 a0:=by kernel_rfl
 rw[←e]
 exact w0.shape tab_one (x:=tyD tab 46) (y:=tyD tab 49) (by kernel_rfl) (by kernel_rfl) (by kernel_rfl)
theorem sm47 {a0:List D}(w0:ListS tab 3 a0):Shape tab 47 [.list false 1 a0]:=by
 have e:D.list (rowD (tyD tab 3).desc) (tyD tab 3).size a0= .list false 1 a0:=by kernel_rfl
 rw[←e]
 exact w0.shape tab_one (x:=tyD tab 47) (y:=tyD tab 3) (by kernel_rfl) (by kernel_rfl) (by kernel_rfl)
theorem sm49 {a0:Int}{a1:Int}{a2:ByteArray}{a3:List D}{a4:Int}{a5:List D}(w0:(Lit.int .u8 a0).wf=true) (w1:(Lit.int .i64 a1).wf=true) (w2:a2.size≤maxLen) (w3:ListS tab 49 a3) (w4:(Lit.int .i64 a4).wf=true) (w5:ListS tab 3 a5):Shape tab 49 [.int .u8 a0,.int .i64 a1,.str a2,.list true 6 a3,.int .i64 a4,.list false 1 a5]:=by
 have tt:tab 49=some (tyD tab 49):=by kernel_rfl
 obtain⟨fs,hfs,hall⟩:∃fs,(tyD tab 49).desc= .struct fs∧(fs.toList.all fun f=>[(5,0),(2,1),(9,2),(46,3),(3,4),(47,5)].contains (f.type,f.offset))=true:=⟨(match (tyD tab 49).desc with | .struct fs=>fs | _=>#[]),by kernel_rfl,by kernel_rfl⟩
 refine .struct (x:=tyD tab 49) (fs:=fs) _ tt hfs (by kernel_rfl) (by simp[D.isAgg]) (fun f hf y hy=>?_)
 have hq:=List.all_eq_true.1 hall f hf
 simp only[List.contains_cons,List.contains_nil,Bool.or_false,Bool.or_eq_true,beq_iff_eq,Prod.mk.injEq]at hq
 rcases hq with⟨e1,e2⟩ | ⟨e1,e2⟩ | ⟨e1,e2⟩ | ⟨e1,e2⟩ | ⟨e1,e2⟩ | ⟨e1,e2⟩
 ·rw[e1,show tab 5=some (tyD tab 5)by kernel_rfl]at hy;cases hy;rw[e1,e2,show (tyD tab 5).size=1 by kernel_rfl];exact sm5 w0
 ·rw[e1,show tab 2=some (tyD tab 2)by kernel_rfl]at hy;cases hy;rw[e1,e2,show (tyD tab 2).size=1 by kernel_rfl];exact sm2 w1
 ·rw[e1,show tab 9=some (tyD tab 9)by kernel_rfl]at hy;cases hy;rw[e1,e2,show (tyD tab 9).size=1 by kernel_rfl];exact sm9 w2
 ·rw[e1,show tab 46=some (tyD tab 46)by kernel_rfl]at hy;cases hy;rw[e1,e2,show (tyD tab 46).size=1 by kernel_rfl];exact sm46 w3
 ·rw[e1,show tab 3=some (tyD tab 3)by kernel_rfl]at hy;cases hy;rw[e1,e2,show (tyD tab 3).size=1 by kernel_rfl];exact sm3 w4
 ·rw[e1,show tab 47=some (tyD tab 47)by kernel_rfl]at hy;cases hy;rw[e1,e2,show (tyD tab 47).size=1 by kernel_rfl];exact sm47 w5
theorem mk49 {a0:Int}{a1:Int}{a2:ByteArray}{a3:List D}{a4:Int}{a5:List D}(w0:(Lit.int .u8 a0).wf=true) (w1:(Lit.int .i64 a1).wf=true) (w2:a2.size≤maxLen) (w3:ListS tab 49 a3) (w4:(Lit.int .i64 a4).wf=true) (w5:ListS tab 3 a5):RowS tab 49 (.agg [.int .u8 a0,.int .i64 a1,.str a2,.list true 6 a3,.int .i64 a4,.list false 1 a5]):=⟨sm49 w0 w1 w2 w3 w4 w5,fun y hy=>by rw[show tab 49=some (tyD tab 49)by kernel_rfl]at hy;cases hy;kernel_rfl⟩
end Go.Proofs.Ytiiojajgajnhpaa
end
namespace Go.AM
open Go Go.RowKit
def cvP (p:Id→Bool):CV→Bool
 | .ptr i _=>p i
 | .fn _ cap=>allB p cap
 | .lst i _ _ _=>p i
 | .sl i _=>p i
 | .map i=>p i
 | .ap i _ _ _ _=>p i
 | .ow i=>p i
 | .op i _ _ _=>p i
 | .yl i=>p i
 | _=>true
def v1P (p:Id→Bool):V1→Bool
 | .d _=>true
 | .c x=>cvP p x
 | .agg cs=>allB (cvP p) cs
def avP (p:Id→Bool):AV→Bool
 | .u=>true
 | .v x=>v1P p x
 | .t xs=>allB (v1P p) xs
def objP (p:Id→Bool):AObj→Bool
 | .cells cs=>allB (cvP p) cs
 | .tok ..=>true
 | .map _ _ es=>allB (fun e=>v1P p e.2) es
 | .arr cs1 _ _ _ cs2=>match allB (cvP p) cs1 with
  | true=>allB (cvP p) cs2
  | false=>false
 | .tree _ _ _ _ foc=>match foc with
  | some x=>allB (cvP p) x.2
  | none=>true
 | .pmap _ _ _ _ foc=>match foc with
  | some x=>p x.2
  | none=>true
 | .gone=>true
 | .rnd _ sl=>allB (fun x=>avP p x.2) sl
 | .rndX _=>true
section
variable {p:Id→Bool}{f e:Id→Id}(hp:∀i,p i=true→f (e i)=i)
include hp
theorem ren_cv {c:CV}(h:cvP p c=true):(c.ren e).ren f=c:=by
 cases c<;>simp only[CV.ren,cvP]at h ⊢
 ·rw[hp _ h]
 ·rw[List.map_map]
  congr 1
  rw[allB_iff]at h
  exact map_same fun i hi=>hp _ (h i hi)
 ·rw[hp _ h]
 ·rw[hp _ h]
 ·rw[hp _ h]
 ·rw[hp _ h]
 ·rw[hp _ h]
 ·rw[hp _ h]
 ·rw[hp _ h]
theorem ren_cvs {cs:List CV}(h:allB (cvP p) cs=true):(cs.map (CV.ren e)).map (CV.ren f)=cs:=by
 rw[List.map_map]
 rw[allB_iff]at h
 exact map_same fun i hi=>ren_cv hp (h i hi)
theorem ren_v1 {c:V1}(h:v1P p c=true):(c.ren e).ren f=c:=by
 cases c<;>simp only[V1.ren,v1P]at h ⊢
 ·rw[ren_cv hp h]
 ·rw[ren_cvs hp h]
theorem ren_av {c:AV}(h:avP p c=true):(c.ren e).ren f=c:=by
 cases c<;>simp only[AV.ren,avP]at h ⊢
 ·rw[ren_v1 hp h]
 ·rw[List.map_map]
  congr 1
  rw[allB_iff]at h
  exact map_same fun i hi=>ren_v1 hp (h i hi)
theorem ren_obj {c:AObj}(h:objP p c=true):(c.ren e).ren f=c:=by
 cases c<;>simp only[AObj.ren,objP]at h ⊢
 ·rw[ren_cvs hp h]
 ·rw[List.map_map]
  congr 1
  rw[allB_iff]at h
  refine map_same fun i hi=>?_
  show (i.1,(i.2.ren e).ren f)=i
  rw[ren_v1 hp (h i hi)]
 ·split at h
  ·rename_i h1
   rw[ren_cvs hp h,ren_cvs hp h1]
  ·cases h
 ·congr 1
  split at h
  ·show some (_,List.map (CV.ren f) (List.map (CV.ren e) _))=_
   rw[ren_cvs hp h]
  ·rfl
 ·congr 1
  split at h
  ·show some (_,f (e _))=_
   rw[hp _ h]
  ·rfl
 ·rw[List.map_map]
  congr 1
  rw[allB_iff]at h
  refine map_same fun i hi=>?_
  show (i.1,(i.2.ren e).ren f)=i
  rw[ren_av hp (h i hi)]
end
theorem weak_ren {σ σ':St}(r:Id→Id) (hext:∀j,r (.ext j)= .ext j) (hbig:∀n,σ'.next≤n→∃N,σ.next≤N∧r (.loc n)= .loc N)
  (hs:∀t,getS σ'.slots t= .u∨getS σ.slots t=(getS σ'.slots t).ren r) (hh:∀i o,getH σ'.heap i=some o→getH σ.heap (r i)=some (o.ren r))
  (hinj:∀i j o o',getH σ'.heap i=some o→getH σ'.heap j=some o'→r i=r j→i=j) (hlow:∀n,σ'.next≤n→getH σ'.heap (.loc n)=none):Weak σ σ':=by
 rintro C a w ⟨g,R⟩
 let g':Ghost:=fun i=>g (r i)
 have hz:∀b o,zone g' (getH σ'.heap) b o→zone g (getH σ.heap) b o:=by
  rintro b o ⟨i,ob,hi,h1⟩
  exact⟨r i,_,hh i ob hi,zone1_ren.2 h1⟩
 have hzz:∀b o,zor (zone g' (getH σ'.heap)) C.X b o→zor (zone g (getH σ.heap)) C.X b o:=fun b o hx=>hx.imp (hz b o) id
 have ht:∀i n sz e,getH σ'.heap i=some (.tok n sz e)→getH σ.heap (r i)=some (.tok n sz e):=fun i n sz e hi=>hh i _ hi
 have hw:∀i,isLive (getH σ'.heap i)=true→isLive (getH σ.heap (r i))=true:=by
  intro i hi
  cases hc:getH σ'.heap i with
  | none=>rw[hc]at hi;cases hi
  | some o=>
   rw[hh i o hc]
   rw[hc]at hi
   exact isLive_ren.trans hi
 refine⟨g',R.size,R.defers,fun t=>?_,⟨fun i o hi=>RelObj.pull (r:=r) (g':=g') hzz (fun _=>rfl) ht hw (R.heap.objs _ _ (hh i o hi)),fun i j oi oj b hi hj bi bj=>?_,fun i oi b o hi bi=>R.heap.apart _ _ b o (hh i oi hi) (Obk_ren.2 bi)⟩,R.frame,fun j=>?_,
  fun j ob b o hj hz'=>R.within _ _ b o (hh j ob hj) (zone1_ren.2 hz'),R.xs,fun n hn=>⟨?_,hlow n hn⟩⟩
 ·rcases hs t with e | e
  ·rw[e];trivial
  ·have:=R.slots t
   rw[e]at this
   exact RelAV.pull (r:=r) hzz (fun _=>rfl) ht hw this
 ·exact hinj i j oi oj hi hj (R.heap.sep _ _ _ _ b (hh i oi hi) (hh j oj hj) (Obk_ren.2 bi) (Obk_ren.2 bj))
 ·show gsame (C.g0 (.ext j)) (g (r (.ext j)))
  rw[hext]
  exact R.ext j
 ·obtain⟨N,hN,e⟩:=hbig n hn
  show g (r (.loc n))=undef
  rw[e]
  exact (R.free N hN).1
def fstOf:List (Nat×Nat)→Nat→Option Nat
 | [],_=>none
 | (a,b)::l,k=>match Nat.beq a k with
  | true=>some b
  | false=>fstOf l k
def sndOf:List (Nat×Nat)→Nat→Option Nat
 | [],_=>none
 | (a,b)::l,k=>match Nat.beq b k with
  | true=>some a
  | false=>sndOf l k
def invF (l:List (Nat×Nat)):Id→Id
 | .ext j=>.ext j
 | .loc k=>match fstOf l k with
  | some m=>.loc m
  | none=>.loc k
def backF (l:List (Nat×Nat)):Id→Id
 | .ext j=>.ext j
 | .loc k=>match sndOf l k with
  | some m=>.loc m
  | none=>.loc k
def okId (l:List (Nat×Nat)) (n:Nat) (i:Id):Bool:=
 match Id.beq (backF l (invF l i)) i with
 | true=>idB n (invF l i)
 | false=>false
def renS (l:List (Nat×Nat)):List (Nat×AV)→List (Nat×AV)
 | []=>[]
 | (t,x)::r=>(t,x.ren (invF l))::renS l r
def renH (l:List (Nat×Nat)):List (Id×AObj)→List (Id×AObj)
 | []=>[]
 | (i,x)::r=>(invF l i,x.ren (invF l))::renH l r
def keepR (ks:List Nat) (is:List Id) (n:Nat) (l:List (Nat×Nat)) (σ:St) (K:St→Prop):Prop:=
 match keepH σ.heap is with
 | none=>False
 | some hp=>req (allB (fun x:Nat×AV=>avP (okId l n) x.2) (keepS σ.slots ks))<| req (allB (fun x:Id×AObj=>match okId l n x.1 with | true=>objP (okId l n) x.2 | false=>false) hp)<|
   K ⟨renS l (keepS σ.slots ks),renH l hp,n⟩
theorem renS_get {l:List (Nat×Nat)}{s:List (Nat×AV)}(t:Nat):getS (renS l s) t=(getS s t).ren (invF l):=by
 induction s with
 | nil=>rfl
 | cons x s ih=>
  obtain⟨k,v⟩:=x
  show getS ((k,v.ren (invF l))::renS l s) t=_
  rw[getS_cons,getS_cons]
  simp only[]
  split
  ·rfl
  ·exact ih
theorem renH_get {l:List (Nat×Nat)}{p:Id→Bool}{f:Id→Id}(hp:∀i,p i=true→f (invF l i)=i):∀{s:List (Id×AObj)},(∀x∈s,p x.1=true)→∀{i:Id}{o:AObj},getH (renH l s) i=some o→p (f i)=true∧invF l (f i)=i∧∃o',getH s (f i)=some o'∧o=o'.ren (invF l)
 | [],_,i,o,h=>by simp[renH,getH]at h
 | (k,v)::s,hs,i,o,h=>by
  have hk:=hs (k,v) (by simp)
  rw[show renH l ((k,v)::s)=(invF l k,v.ren (invF l))::renH l s from rfl,getH_cons]at h
  simp only[updO]at h
  by_cases e:i=invF l k
  ·rw[if_pos e]at h
   simp at h
   have hf:f i=k:=by rw[e];exact hp k hk
   rw[hf]
   exact⟨hk,e.symm,v,by rw[getH_cons];simp[updO],h.symm⟩
  ·rw[if_neg e]at h
   obtain⟨h1,h2,o',h3,h4⟩:=renH_get hp (fun x hx=>hs x (List.mem_cons_of_mem _ hx)) h
   refine⟨h1,h2,o',?_,h4⟩
   rw[getH_cons]
   simp only[updO]
   rw[if_neg]
   ·exact h3
   ·rintro rfl
    exact e h2.symm
theorem getH_all {q:Id×AObj→Bool}{l:List (Id×AObj)}(h:allB q l=true) {i:Id}{o:AObj}(hi:getH l i=some o):q (i,o)=true:=by
 induction l with
 | nil=>simp[getH]at hi
 | cons x l ih=>
  obtain⟨k,v⟩:=x
  rw[allB_iff]at h
  rw[getH_cons]at hi
  simp only[updO]at hi
  split at hi
  ·rename_i e
   cases hi
   rw[e]
   exact h _ (List.mem_cons_self ..)
  ·exact ih (allB_iff.2 fun x hx=>h x (by simp[hx])) hi
theorem keepR_weak {ks:List Nat}{is:List Id}{n:Nat}{l:List (Nat×Nat)}{σ:St}{K:St→Prop}(h:keepR ks is n l σ K):∃σ',Weak σ σ'∧K σ':=by
 unfold keepR at h
 split at h
 ·exact h.elim
 ·rename_i hp hhp
  obtain⟨h1,h⟩:=req_iff.1 h
  obtain⟨h2,h⟩:=req_iff.1 h
  let N:=max σ.next n
  let f:Id→Id:=fun i=>if idB n i=true then backF l i else .loc N
  have hpf:∀i,okId l n i=true→f (invF l i)=i:=by
   intro i hi
   unfold okId at hi
   split at hi
   ·rename_i hb
    show (if idB n (invF l i)=true then _ else _)=i
    rw[if_pos hi]
    exact Id.beq_iff.1 hb
   ·cases hi
  have hk2:∀x∈hp,okId l n x.1=true∧objP (okId l n) x.2=true:=by
   intro x hx
   have:=allB_iff.1 h2 x hx
   split at this
   ·rename_i hb;exact⟨hb,this⟩
   ·cases this
  have hnew:∀i o,getH (renH l hp) i=some o→okId l n (f i)=true∧invF l (f i)=i∧∃o',getH hp (f i)=some o'∧o=o'.ren (invF l):=fun i o hi=>renH_get hpf (fun x hx=>(hk2 x hx).1) hi
  refine⟨_,weak_ren f (fun j=>by show (if idB n (.ext j)=true then _ else _)=_;simp[idB,backF]) (fun m hm=>⟨N,Nat.le_max_left _ _,?_⟩) (fun t=>?_) (fun i o hi=>?_) (fun i j o o' hi hj e=>?_) (fun m hm=>?_),h⟩
  ·have hm:n≤m:=hm
   have:idB n (.loc m)=false:=by
    cases hb:idB n (.loc m)with
    | false=>rfl
    | true=>simp[idB]at hb;omega
   show (if idB n (.loc m)=true then _ else _)=_
   rw[this];rfl
  ·rw[renS_get]
   rcases keepS_get (l:=σ.slots) (ks:=ks) t with e | e
   ·rw[e];exact .inl rfl
   ·right
    rw[←e]
    exact (ren_av hpf (getS_all (p:=avP (okId l n)) rfl h1 t)).symm
  ·obtain⟨p1,p2,o',p3,rfl⟩:=hnew i o hi
   have hq:=getH_all (q:=fun x=>objP (okId l n) x.2) (allB_iff.2 fun x hx=>(hk2 x hx).2) p3
   rw[ren_obj hpf hq]
   exact (keepH_get hhp _ _ p3).1
  ·obtain⟨_,p2,_⟩:=hnew i o hi
   obtain⟨_,q2,_⟩:=hnew j o' hj
   rw[←p2,←q2,e]
  ·cases hc:getH (renH l hp) (.loc m)with
   | none=>rfl
   | some o=>
    obtain⟨p1,p2,_⟩:=hnew _ o hc
    have hm:n≤m:=hm
    unfold okId at p1
    split at p1
    ·rw[p2]at p1
     simp[idB]at p1
     omega
    ·cases p1
end Go.AM
namespace Go.AM
open Go Go.RowKit
theorem loop_invG {M:Mach}{ex:St→(AExit→St→Prop)→Prop}{σ:St}{K:AExit→St→Prop}(gs:List Gh) (l:List (Nat×Nat)) (ks:List Nat) (is:List Id) (nx:Nat) {T:Type}(S:T→St) (I:T→Prop) (m:T→Nat) (t0:T)
  (hI:I t0) (h0:gh gs σ fun σ=>keepR ks is nx l σ (·=S t0))
  (hr:∀t,I t→ex (S t) fun e σ2=>match e with
   | .normal=>∃n' σ3,n'<m t∧Weak σ2 σ3∧∃t',I t'∧n'=m t'∧σ3=S t'
   | .exit id=>K (.exit id) σ2
   | .ret=>K .ret σ2):M.lock fun _=>loopP ex σ K∨∃n,unrollP ex K n σ:=by
 refine (M.lock_iff _).2<| .inl ⟨fun n σ=>∃t,I t∧n=m t∧σ=S t,m t0,?_,?_⟩
 ·obtain⟨σ1,hw1,h1⟩:=gh_weak h0
  obtain⟨σ',hw,e⟩:=keepR_weak h1
  exact⟨σ',Weak.trans hw1 hw,t0,hI,rfl,e⟩
 ·rintro n σ1 ⟨t,h1,rfl,rfl⟩
  exact hr t h1
theorem loop_nextG {T:Type}{m:T→Nat}{I:T→Prop}{S:T→St}{σ2:St}{k:Nat}(t':T) (gs:List Gh) (l:List (Nat×Nat)) (ks:List Nat) (is:List Id) (nx:Nat) (hI:I t') (hm:m t'<k)
  (hk:gh gs σ2 fun σ=>keepR ks is nx l σ (·=S t')):∃n' σ3,n'<k∧Weak σ2 σ3∧∃t',I t'∧n'=m t'∧σ3=S t':=by
 obtain⟨σ1,hw1,h1⟩:=gh_weak hk
 obtain⟨σ',hw,e⟩:=keepR_weak h1
 exact⟨m t',σ',hm,Weak.trans hw1 hw,t',hI,rfl,e⟩
section
variable {w:World}{Z Z' X:Zone}{g g':Ghost}{h h':Heap}
end
end Go.AM
namespace Go.AM
open Go Go.RowKit
section
variable {α β γ:Type}
def bS (x:Option (α ⊕ β)) (k1:α→Option γ) (k2:β→Option γ):Option γ:=
 match x with
 | some (.inl a)=>k1 a
 | some (.inr b)=>k2 b
 | none=>none
theorem bS_inv {x:Option (α ⊕ β)}{k1:α→Option γ}{k2:β→Option γ}{r:γ}(h:bS x k1 k2=some r):(∃a,x=some (.inl a)∧k1 a=some r)∨∃b,x=some (.inr b)∧k2 b=some r:=by
 unfold bS at h
 split at h
 ·exact .inl ⟨_,rfl,h⟩
 ·exact .inr ⟨_,rfl,h⟩
 ·cases h
end
section
variable {γ:Type}
def letB (b:Bool) (k:Bool→Option γ):Option γ:=k b
theorem letB_inv {b:Bool}{k:Bool→Option γ}{r:γ}(h:letB b k=some r):∃y,b=y∧k y=some r:=⟨b,rfl,h⟩
end
def cL:Code→Code
 | .seq a _=>a
 | .cond _ a _=>a
 | .block _ b=>b
 | .loop b=>b
 | .rangeFunc _ _ a _=>a
 | c=>c
def cR:Code→Code
 | .seq _ b=>b
 | .cond _ _ b=>b
 | .rangeFunc _ _ _ b=>b
 | c=>c
def cP:Code→Array Tmp
 | .rangeFunc _ p _ _=>p
 | _=>#[]
def bodyOf (fn:Func):Code:=
 match fn.body with
 | some c=>c
 | none=>.skip
def slOK (s:Slots):List (Nat×AV)→Prop
 | []=>True
 | (t,v)::r=>s t=v∧slOK s r
theorem slOK_get {s:Slots}:∀{sl:List (Nat×AV)},slOK s sl→∀t,getS sl t= .u∨getS sl t=s t
 | [],_,_=>.inl rfl
 | (k,v)::r,h,t=>by
  show (match Nat.beq k t with | true=>v | false=>getS r t)= .u∨(match Nat.beq k t with | true=>v | false=>getS r t)=s t
  cases e:Nat.beq k t with
  | true=>exact .inr (by rw[←Nat.eq_of_beq_eq_true e];exact h.1.symm)
  | false=>exact slOK_get h.2 t
theorem eqv_ne {a b q:Bool}(h:(!(a==b))=q):notB (eqvB a b)=q:=by rw[eqvB_eq,notB_eq];exact h
theorem not_eq' {a q:Bool}(h:(!a)=q):notB a=q:=by rw[notB_eq];exact h
theorem seq_go {M:Mach}{ea eb:St→(AExit→St→Prop)→Prop}{σ:St}{K:AExit→St→Prop}(h:ea σ fun e σ'=>match e with
  | .normal=>eb σ' K
  | .exit id=>K (.exit id) σ'
  | .ret=>K .ret σ'):M.lock fun _=>seqP ea eb σ K:=(M.lock_iff _).2 (.inl h)
theorem seq_join {M:Mach}{ea eb:St→(AExit→St→Prop)→Prop}{σ:St}{K:AExit→St→Prop}{T:Type}(S:T→St) (I:T→Prop)
  (ha:ea σ fun e σ'=>match e with
   | .normal=>∃σ'',Weak σ' σ''∧∃t,I t∧σ''=S t
   | .exit id=>K (.exit id) σ'
   | .ret=>K .ret σ') (hb:∀t,I t→eb (S t) K):M.lock fun _=>seqP ea eb σ K:=by
 refine (M.lock_iff _).2 (.inr ⟨fun σ=>∃t,I t∧σ=S t,ha,?_⟩)
 rintro σ2 ⟨t,hi,rfl⟩
 exact hb t hi
theorem join_nextG {T:Type}{I:T→Prop}{S:T→St}{σ2:St}(t':T) (gs:List Gh) (l:List (Nat×Nat)) (ks:List Nat) (is:List Id) (nx:Nat) (hI:I t') (hk:gh gs σ2 fun σ=>keepR ks is nx l σ (·=S t')):
  ∃σ'',Weak σ2 σ''∧∃t,I t∧σ''=S t:=by
 obtain⟨σ1,hw1,h1⟩:=gh_weak hk
 obtain⟨σ',hw,e⟩:=keepR_weak h1
 exact⟨σ',Weak.trans hw1 hw,t',hI,e⟩
theorem join_next {T:Type}{I:T→Prop}{S:T→St}{σ2:St}(t':T) (ks:List Nat) (is:List Id) (nx:Nat) (hI:I t') (hk:keep ks is nx σ2 (·=S t')):
  ∃σ'',Weak σ2 σ''∧∃t,I t∧σ''=S t:=by
 obtain⟨σ',hw,e⟩:=keep_weak hk
 exact⟨σ',hw,t',hI,e⟩
section
variable {M:Mach}{P:Program}{I:Inv}
theorem RoundK.of' {ti:Types}(hti:TIok P ti) (h1:TIone ti) (hm:P.follows .mixedOrders=true) {r:RF}{sl:List (Nat×AV)}{args:List V1}{pre:List AObj}{Q:Jump→List AObj→List AObj→Prop}{nt:Nat}{ps:List Tmp}{ca cb:Code}
  (hnt:r.nt=nt) (hpl:r.params.toList=ps) (ha:r.assign=ca) (hb:r.body=cb) (hlen:args.length=ps.length) (hps:allB (fun p=>Nat.blt p nt) ps=true)
  (hx:∀M:Mach,M.P=P→M.I=I→exec M ti nt (execDraw ti M nt) ca ⟨putPs ps args sl,extsOf pre 0,0⟩ fun e σ=>match e with
   | .normal=>exec M ti nt (execDraw ti M nt) cb σ fun e σ=>∃post new,Q (jumpOf e) post new∧FinR σ post new
   | _=>False):RoundK P I r sl args pre Q:=by
 subst hnt
 subst hpl
 subst ha
 subst hb
 exact RoundK.intro (fun M nt=>execDraw ti M nt) hti h1 (draw_P hti h1 hm) (by simpa using hlen) hps hx
theorem finQ_go {Q:AV→List AObj→List AObj→Prop}{ti:Types}{rs:List ResultVar}{σ:St}{res:AV}{post new:List AObj}(hQ:Q res post new)
  (h:withRes ti σ rs fun xs=>∃nm:List Id,nodupB nm=true∧mkRes xs=res.ren (renN nm σ.next)∧postOK (getH σ.heap) (renN nm σ.next) post 0∧newOK (getH σ.heap) (renN nm σ.next) new nm∧handOK post nm):
  ∃r p n,Q r p n∧Fin' ti rs σ r p n:=⟨_,_,_,hQ,[],h⟩
theorem yl_with {A:Prop}{ti:Types}{o:Oper}{c:Call}{f:Operand}{fresh:Nat}{σ:St}{K:St→Prop}{i:Id}{r:Unit→RF}{sl sl0:List (Nat×AV)}{xs targs:List V1}{pre post new:List AObj}{j:Jump}
  (hP:M.P=P) (hI:M.I=I) (m:List Id) (ho:o.op= .call c) (hc:c.callee= .value f) (hf:opd ti (getS σ.slots) 0 f= .v (.c (.yl i))) (hr:getH σ.heap i=some (.rnd r sl))
  (hR:RoundK P I (r ()) sl0 targs pre fun j' p n=>j'=j∧p=post∧n=new) (hxs:vals1 (opsArgs ti (getS σ.slots) c.args.toList c.argTypes.toList)=some xs)
  (he:xs=targs.map (V1.ren (renM (m++[i]) fresh))) (hsl:sl=renSl (renM (m++[i]) fresh) sl0) (hm:(m++[i]).Nodup) (hpre:preOK (getH σ.heap) (renM (m++[i]) fresh) m pre) (hkd:allKinds pre post) (hn:new.length≤31)
  (hk:K ⟨putS σ.slots o.dst (.v (.d (.bool j.isNone))),setW σ.heap (wrM (m++[i]) (renM (m++[i]) fresh) (post++[putRec j r sl0])++wrNew fresh (renM (m++[i]) fresh) 0 new),fresh⟩):
  M.lock fun _=>A∨callK M ti o fresh σ K:=by
 refine call_in ?_
 unfold callK
 rw[ho]
 simp only[]
 rw[hc]
 simp only[]
 refine⟨⟨σ.slots,σ.heap,fresh⟩,Weak.refl _,rfl,?_⟩
 simp only[hf]
 unfold withArgs
 rw[hxs]
 simp only[hr]
 refine⟨m,targs,pre,sl0,_,hP▸hI▸hR,he,hsl,(preOK_get hpre).1,hm,(preOK_get hpre).2,?_⟩
 rintro j' post' new' ⟨rfl,rfl,rfl⟩
 exact⟨⟨hkd,hn⟩,hk⟩
def callFV (M:Mach) (ti:Types) (o:Oper) (c:Call) (f:Operand) (fresh:Nat) (σ:St) (K:St→Prop):Prop:=
 match opd ti (getS σ.slots) 0 f with
 | .v (.c (.fn n cap))=>withArgs (opsArgs ti (getS σ.slots) c.args.toList c.argTypes.toList) fun xs=>callFn M o.dst fresh σ n (xs++cap.map fun i=>V1.c (.ptr i 0)) K
 | _=>False
theorem call_gs {A:Prop}{ti:Types}{o:Oper}{c:Call}{f:Operand}{fresh:Nat}{σ:St}{K:St→Prop}(gs:List Gh) (ho:o.op= .call c) (hc:c.callee= .value f)
  (hk:gh gs ⟨σ.slots,σ.heap,fresh⟩ fun σ'=>σ'.next=fresh∧M.lock fun _=>callFV M ti o c f fresh σ' K):M.lock fun _=>A∨callK M ti o fresh σ K:=by
 refine call_in ?_
 obtain⟨σ',hw,hn,hk⟩:=gh_weak hk
 have hk:=(M.lock_iff _).1 hk
 unfold callK
 rw[ho]
 simp only[]
 rw[hc]
 simp only[]
 refine⟨σ',hw,hn,?_⟩
 unfold callFV at hk
 split at hk
 ·rename_i n cap h
  rw[h]
  exact hk
 ·exact hk.elim
theorem callfv_with {ti:Types}{o:Oper}{c:Call}{f:Operand}{fresh:Nat}{σ:St}{K:St→Prop}{n:FuncId}{cap:List Id}{xs targs:List V1}{pre post new:List AObj}{res:AV}(hP:M.P=P) (hI:M.I=I) (m:List Id)
  (hf:opd ti (getS σ.slots) 0 f= .v (.c (.fn n cap))) (hxs:vals1 (opsArgs ti (getS σ.slots) c.args.toList c.argTypes.toList)=some xs) (ht:Trip P I n targs pre res post new)
  (he:(xs++cap.map fun i=>V1.c (.ptr i 0))=targs.map (V1.ren (renM m fresh))) (hm:m.Nodup) (hpre:preOK (getH σ.heap) (renM m fresh) m pre) (hkd:allKinds pre post) (hn:new.length≤31)
  (hk:K ⟨putS σ.slots o.dst (res.ren (renM m fresh)),setW σ.heap (wrM m (renM m fresh) post++wrNew fresh (renM m fresh) 0 new),σ.next⟩):M.lock fun _=>callFV M ti o c f fresh σ K:=by
 refine (M.lock_iff _).2 ?_
 unfold callFV
 rw[hf]
 simp only[]
 unfold withArgs
 rw[hxs]
 refine⟨m,targs,pre,_,hP▸hI▸ht,he,(preOK_get hpre).1,hm,(preOK_get hpre).2,?_⟩
 rintro res' post' new' ⟨rfl,rfl,rfl⟩
 exact⟨⟨hkd,hn⟩,hk⟩
theorem op_must {ti:Types}{o:Oper}{fresh:Nat}{σ:St}{K:St→Prop}(gs:List Gh) (hk:gh gs ⟨σ.slots,σ.heap,fresh⟩ fun σ'=>σ'.next=fresh∧plOp M ti o fresh σ' K):M.lock fun _=>ghOp M ti o fresh σ K:=by
 obtain⟨σ',hw,hn,hk⟩:=gh_weak hk
 exact (M.lock_iff _).2 ⟨σ',hw,hn,hk⟩
theorem op_gs {ti:Types}{o:Oper}{fresh:Nat}{σ:St}{K:St→Prop}(gs:List Gh) (hk:gh gs ⟨σ.slots,σ.heap,fresh⟩ fun σ'=>σ'.next=fresh∧plOp M ti o fresh σ' K):M.lock fun _=>plOp M ti o fresh σ K∨ghOp M ti o fresh σ K:=
 (M.lock_iff _).2 (.inr ((M.lock_iff _).1 (op_must gs hk)))
theorem range_with {ti:Types}{nt:Nat}{g:Operand}{ps:Array Tmp}{assign body:Code}{σ:St}{K:AExit→St→Prop}{n:FuncId}{cap:List Id}{targs:List V1}{pre post new:List AObj}{res:AV}
  (hP:M.P=P) (hI:M.I=I) (m:List Id) (sl:List (Nat×AV)) (hg:opd ti (getS σ.slots) 0 g= .v (.c (.fn n cap))) (hsl:slOK (getS σ.slots) sl)
  (ht:Trip P I n targs pre res post new) (he:(V1.c (.yl (.loc σ.next))::cap.map fun i=>V1.c (.ptr i 0))=targs.map (V1.ren (renM m (σ.next+32)))) (hm:m.Nodup)
  (hpre:preOK (getH (setH σ.heap (.loc σ.next) (.rnd (fun _=>⟨ps,assign,body,nt⟩) sl))) (renM m (σ.next+32)) m pre) (hkd:allKinds pre post) (hn:new.length≤31)
  (hk:match getH (setW (setH σ.heap (.loc σ.next) (.rnd (fun _=>⟨ps,assign,body,nt⟩) sl)) (wrM m (renM m (σ.next+32)) post++wrNew (σ.next+32) (renM m (σ.next+32)) 0 new)) (.loc σ.next)with
   | some (.rnd _ _)=>K .normal ⟨σ.slots,setH (setW (setH σ.heap (.loc σ.next) (.rnd (fun _=>⟨ps,assign,body,nt⟩) sl)) (wrM m (renM m (σ.next+32)) post++wrNew (σ.next+32) (renM m (σ.next+32)) 0 new)) (.loc σ.next) .gone,σ.next+64⟩
   | some (.rndX j)=>(match j with
    | none=>K .ret ⟨σ.slots,setH (setW (setH σ.heap (.loc σ.next) (.rnd (fun _=>⟨ps,assign,body,nt⟩) sl)) (wrM m (renM m (σ.next+32)) post++wrNew (σ.next+32) (renM m (σ.next+32)) 0 new)) (.loc σ.next) .gone,σ.next+64⟩
    | some id=>K (.exit id) ⟨σ.slots,setH (setW (setH σ.heap (.loc σ.next) (.rnd (fun _=>⟨ps,assign,body,nt⟩) sl)) (wrM m (renM m (σ.next+32)) post++wrNew (σ.next+32) (renM m (σ.next+32)) 0 new)) (.loc σ.next) .gone,σ.next+64⟩)
   | _=>False):
  M.lock fun _=>rangeP M ti nt g ps assign body σ K:=by
 refine (M.lock_iff _).2 ⟨σ,Weak.refl _,?_⟩
 rw[hg]
 refine⟨sl,slOK_get hsl,m,targs,pre,_,hP▸hI▸ht,he,(preOK_get hpre).1,hm,(preOK_get hpre).2,?_⟩
 rintro res' post' new' ⟨rfl,rfl,rfl⟩
 exact⟨⟨hkd,hn⟩,hk⟩
end
end Go.AM
namespace Go.AM
open Go
def slB (d:Nat) (b:Bool) (l:List (Nat×AV)):List Nat→List (Nat×AV)
 | []=>[]
 | k::r=>(match Nat.beq k d with
  | true=>(k,.v (.d (.bool b)))
  | false=>(k,getS l k))::slB d b l r
def hpB (h:List (Id×AObj)):List Id→List (Id×AObj)
 | []=>[]
 | i::r=>(match getH h i with
  | some o=>(i,o)::hpB h r
  | none=>hpB h r)
def stB (d:Nat) (ks:List Nat) (is:List Id) (nx:Nat) (σ:St) (b:Bool):St:=⟨slB d b σ.slots ks,hpB σ.heap is,nx⟩
theorem seq_joinB {M:Mach}{ea eb:St→(AExit→St→Prop)→Prop}{σ:St}{K:AExit→St→Prop}(d:Nat) (ks:List Nat) (is:List Id) (nx:Nat) (I:Nat→Bool→Prop)
  (ha:ea σ fun e σ'=>match e with
   | .normal=>∃σ'',Weak σ' σ''∧∃t:Nat×Bool,I t.1 t.2∧σ''=stB d ks is nx σ t.2
   | .exit id=>K (.exit id) σ'
   | .ret=>K .ret σ') (hb:∀t:Nat×Bool,I t.1 t.2→eb (stB d ks is nx σ t.2) K):M.lock fun _=>seqP ea eb σ K:=
 seq_join (fun t:Nat×Bool=>stB d ks is nx σ t.2) (fun t=>I t.1 t.2) ha hb
end Go.AM
namespace Go.AM
open Go Go.RowKit
section
variable {γ:Type}
def findPF (z:Int) (rows:List PRow) (k1:Nat→List D→List D→Option γ) (k0:Option γ):Option γ:=
 match findP z 0 rows with
 | some (u,_,c,l)=>k1 u c l
 | none=>k0
theorem findPF_inv {z:Int}{rows:List PRow}{k1:Nat→List D→List D→Option γ}{k0:Option γ}{r:γ}(h:findPF z rows k1 k0=some r):
  (∃u key c l,findP z 0 rows=some (u,key,c,l)∧k1 u c l=some r)∨(findP z 0 rows=none∧k0=some r):=by
 unfold findPF at h
 split at h
 ·rename_i u key c l hy
  exact .inl ⟨u,key,c,l,hy,h⟩
 ·rename_i hy
  exact .inr ⟨hy,h⟩
def putPF (z:Int) (c l:List D) (rows:List PRow) (k:List PRow→Option γ):Option γ:=
 match findP z 0 rows with
 | some _=>none
 | none=>k (rows++[(z,c,l)])
theorem putPF_inv {z:Int}{c l:List D}{rows:List PRow}{k:List PRow→Option γ}{r:γ}(h:putPF z c l rows k=some r):∃out,findP z 0 rows=none∧rows++[(z,c,l)]=out∧k out=some r:=by
 unfold putPF at h
 split at h
 ·cases h
 ·rename_i hy
  exact⟨_,hy,rfl,h⟩
def delPF (z:Int) (rows:List PRow) (k:List PRow→Option γ):Option γ:=k (eraseP z rows)
theorem delPF_inv {z:Int}{rows:List PRow}{k:List PRow→Option γ}{r:γ}(h:delPF z rows k=some r):∃out,eraseP z rows=out∧k out=some r:=⟨_,rfl,h⟩
def setPF (rows:List PRow) (u:Nat) (c l:List D) (k:List PRow→Option γ):Option γ:=k (rows.modify u fun r=>(r.1,c,l))
theorem setPF_inv {rows:List PRow}{u:Nat}{c l:List D}{k:List PRow→Option γ}{r:γ}(h:setPF rows u c l k=some r):∃out,(rows.modify u fun r=>(r.1,c,l))=out∧k out=some r:=⟨_,rfl,h⟩
def setNF (L:List D) (i:Nat) (x:D) (k:List D→Option γ):Option γ:=if i<L.length then k (L.set i x)else none
theorem setNF_inv {L:List D}{i:Nat}{x:D}{k:List D→Option γ}{r:γ}(h:setNF L i x k=some r):∃out,i<L.length∧L.set i x=out∧k out=some r:=by
 unfold setNF at h
 split at h
 ·rename_i hy
  exact⟨_,hy,rfl,h⟩
 ·cases h
end
end Go.AM
namespace Go.Proofs.Ytiiojajgajnhpaa
open Go Go.AM
theorem fol:Try.prog.follows .mixedOrders=true:=by kernel_rfl
def inv:Inv:=Inv.none
end Go.Proofs.Ytiiojajgajnhpaa
set_option maxRecDepth 100000
set_option maxHeartbeats 40000000
set_option linter.unusedVariables false
noncomputable section
namespace Go.Proofs.Ytiiojajgajnhpaa
open Go Go.AM
def dl_w0 {γ:Type}(x:List D) (k:Int→Int→Int→Option γ):Option γ:=match x with | [.int .i64 a0,.int .i64 a1,.int .i64 a2]=>k a0 a1 a2 | _=>none
theorem dl_w0_inv {γ:Type}{x:List D}{k:Int→Int→Int→Option γ}{r:γ}(h:dl_w0 x k=some r):∃a0 a1 a2,x=[.int .i64 a0,.int .i64 a1,.int .i64 a2]∧k a0 a1 a2=some r:=by
 unfold dl_w0 at h
 split at h
 ·exact⟨_,_,_,rfl,h⟩
 ·cases h
def ds_t49 {γ:Type}(x:D) (k:Int→Int→ByteArray→List D→Int→List D→Option γ):Option γ:=match x with | .agg [.int .u8 a0,.int .i64 a1,.str a2,.list true 6 a3,.int .i64 a4,.list false 1 a5]=>k a0 a1 a2 a3 a4 a5 | _=>none
theorem ds_t49_inv {γ:Type}{x:D}{k:Int→Int→ByteArray→List D→Int→List D→Option γ}{r:γ}(h:ds_t49 x k=some r):∃a0 a1 a2 a3 a4 a5,x= .agg [.int .u8 a0,.int .i64 a1,.str a2,.list true 6 a3,.int .i64 a4,.list false 1 a5]∧k a0 a1 a2 a3 a4 a5=some r:=by
 unfold ds_t49 at h
 split at h
 ·exact⟨_,_,_,_,_,_,rfl,h⟩
 ·cases h
def rf42_0:Unit→RF:=fun _=>⟨cP (cL (cR (cL (cR (cR (cR (cR (bodyOf Try.f42)))))))),cL (cL (cR (cL (cR (cR (cR (cR (bodyOf Try.f42)))))))),cR (cL (cR (cL (cR (cR (cR (cR (bodyOf Try.f42)))))))),28⟩
def ds_t61 {γ:Type}(x:D) (k:Int→Int→Int→Int→Int→ByteArray→List D→Int→List D→Option γ):Option γ:=match x with | .agg [.int .i64 a0,.int .i64 a1,.int .i64 a2,.int .u8 a3,.int .i64 a4,.str a5,.list true 6 a6,.int .i64 a7,.list false 1 a8]=>k a0 a1 a2 a3 a4 a5 a6 a7 a8 | _=>none
theorem ds_t61_inv {γ:Type}{x:D}{k:Int→Int→Int→Int→Int→ByteArray→List D→Int→List D→Option γ}{r:γ}(h:ds_t61 x k=some r):∃a0 a1 a2 a3 a4 a5 a6 a7 a8,x= .agg [.int .i64 a0,.int .i64 a1,.int .i64 a2,.int .u8 a3,.int .i64 a4,.str a5,.list true 6 a6,.int .i64 a7,.list false 1 a8]∧k a0 a1 a2 a3 a4 a5 a6 a7 a8=some r:=by
 unfold ds_t61 at h
 split at h
 ·exact⟨_,_,_,_,_,_,_,_,_,rfl,h⟩
 ·cases h
def ds_i64 {γ:Type}(x:D) (k:Int→Option γ):Option γ:=match x with | .int .i64 a0=>k a0 | _=>none
theorem ds_i64_inv {γ:Type}{x:D}{k:Int→Option γ}{r:γ}(h:ds_i64 x k=some r):∃a0,x= .int .i64 a0∧k a0=some r:=by
 unfold ds_i64 at h
 split at h
 ·exact⟨_,rfl,h⟩
 ·cases h
mutual
def L92_1:Nat→(List D)→Int→Int→Option (Int)
 | 0,_,_,_=>none
 | n+1,l1,z3,z4=>
  lenF l1 fun z5=>(if z4<z5 then (if (0:Int)≤z3 then L92_2 n l1 z3 z4 true else L92_2 n l1 z3 z4 false)else L92_2 n l1 z3 z4 false)
def L92_2:Nat→(List D)→Int→Int→Bool→Option (Int)
 | 0,_,_,_,_=>none
 | n+1,l1,z3,z4,b6=>
  (if b6=true then getF l1 z4 fun x7=>ds_t49 x7 fun z8 z9 s10 l11 z12 l13=>letF (IntKind.wrap .i64 (z3 - 10)) fun z14=>(if z14<(0:Int)then L92_3 n l1 z4 s10 l11 l13 z14 true else szF s10 fun z15=>(if z14<z15 then L92_3 n l1 z4 s10 l11 l13 z14 true else lenF l13 fun z16=>szF s10 fun z17=>letF (IntKind.wrap .i64 (z14 - z17)) fun z18=>(if z18<z16 then L92_3 n l1 z4 s10 l11 l13 z14 true else L92_3 n l1 z4 s10 l11 l13 z14 false)))else some z3)
def L92_3:Nat→(List D)→Int→ByteArray→(List D)→(List D)→Int→Bool→Option (Int)
 | 0,_,_,_,_,_,_,_=>none
 | n+1,l1,z4,s10,l11,l13,z14,b19=>
  (if b19=true then some (-1:Int)else szF s10 fun z20=>letF (IntKind.wrap .i64 (z14 - z20)) fun z21=>lenF l13 fun z22=>letF (IntKind.wrap .i64 (z21 - z22)) fun z23=>bO1 (F92 n l11 z23) fun z24=>letF (IntKind.wrap .i64 (z4+1)) fun z25=>L92_1 n l1 z24 z25)
def F92:Nat→(List D)→Int→Option (Int)
 | 0,_,_=>none
 | n+1,l1,z2=>
  L92_1 n l1 z2 (0:Int)
end
theorem T92 (n:Nat):∀⦃l1:List D⦄ ⦃z2:Int⦄ ⦃r1:Int⦄,F92 n l1 z2=some r1→
    Trip Try.prog inv 92 [.d (.list true 6 l1),.d (.int .i64 z2)] [] (.v (.d (.int .i64 r1))) [] []:=by
 induction n using Nat.strongRecOn with | _ n ih=>
 obtain _ | n:=n
 ·intro l1 z2 r1 h
  cases (show (none:Option _)=some _ from h)
 intro l1 z2 r1 h
 rw[F92]at h
 refine Trip.of tab_ok tab_one fol Try.func92 rfl (by kernel_rfl) rfl rfl rfl (fun M hM hI=>?_)
 try cbv
 refine seq_go ?_
 try cbv
 refine seq_go ?_
 try cbv
 refine seq_go ?_
 try cbv
 refine loop_inv (T:=Nat×Int×Int) [0,1,4,5] [] 64 (fun t=>⟨[(0,.v (.d (.list true 6 l1))),(1,.v (.d (.int .i64 t.2.1))),(4,.v (.d (.int .i64 0))),(5,.v (.d (.int .i64 t.2.2)))],[],64⟩)
   (fun t=>t.1≤n∧L92_1 t.1 l1 t.2.1 t.2.2=some r1) (fun t=>t.1) (n,(z2,(0:Int))) ⟨Nat.le_refl _,h⟩ (by cbv) ?_
 clear h
 rintro⟨m1,z3,z4⟩ ⟨hm1,h⟩
 replace hm1:m1≤n:=hm1
 obtain _ | m1:=m1
 ·replace h:L92_1 0 l1 z3 z4=some r1:=h
  rw[L92_1]at h
  cases h
 replace h:L92_1 (m1+1) l1 z3 z4=some r1:=h
 rw[L92_1]at h
 try cbv
 refine seq_go ?_
 try cbv
 refine seq_join (T:=Nat×Bool) (fun t=>⟨[(0,.v (.d (.list true 6 l1))),(1,.v (.d (.int .i64 z3))),(4,.v (.d (.int .i64 0))),(5,.v (.d (.int .i64 z4))),(14,.v (.d (.bool t.2)))],[],320⟩) (fun t=>t.1≤m1∧L92_2 t.1 l1 z3 z4 t.2=some r1) ?_ ?_
 ·try cbv
  replace h:=lenF_inv M h
  obtain⟨z5,hz,h⟩:=h
  refine⟨z5,hz,?_⟩
  clear hz
  try cbv
  refine splitL (fun e=>?_) (fun e=>?_)
  ·replace h:=ite_t e h
   clear e
   try cbv
   refine splitLe (fun e=>?_) (fun e=>?_)
   ·replace h:=ite_t e h
    clear e
    try cbv
    exact join_next (m1,true) [0,1,4,5,14] [] 320 ⟨by omega,h⟩ (by cbv)
   replace h:=ite_f (Int.not_le.2 e) h
   clear e
   try cbv
   exact join_next (m1,false) [0,1,4,5,14] [] 320 ⟨by omega,h⟩ (by cbv)
  replace h:=ite_f (Int.not_lt.2 e) h
  clear e
  try cbv
  exact join_next (m1,false) [0,1,4,5,14] [] 320 ⟨by omega,h⟩ (by cbv)
 clear h
 rintro⟨m2,b6⟩ ⟨hm2,h⟩
 replace hm2:m2≤m1:=hm2
 obtain _ | m2:=m2
 ·replace h:L92_2 0 l1 z3 z4 b6=some r1:=h
  rw[L92_2]at h
  cases h
 replace h:L92_2 (m2+1) l1 z3 z4 b6=some r1:=h
 rw[L92_2]at h
 try cbv
 cases b6
 ·replace h:=ite_f Bool.false_ne_true h
  try cbv
  refine seq_go ?_
  try cbv
  obtain rfl:=Option.some.inj h
  refine fin_go ?_
  try cbv
  exact⟨[],rfl,rfl,trivial,trivial,trivial⟩
 replace h:=ite_t rfl h
 try cbv
 refine seq_go ?_
 try cbv
 refine seq_go ?_
 try cbv
 replace h:=getF_inv h
 obtain⟨x7,⟨hx0,hx⟩,h⟩:=h
 refine⟨x7,hx0,hx,?_⟩
 clear hx0 hx
 replace h:=ds_t49_inv h
 obtain⟨z8,z9,s10,l11,z12,l13,rfl,h⟩:=h
 try cbv
 refine seq_go ?_
 try cbv
 replace h:=letF_inv h
 obtain⟨z14,hz,h⟩:=h
 refine⟨z14,hz,?_⟩
 clear hz
 try cbv
 refine seq_go ?_
 try cbv
 refine seq_join (T:=Nat×Bool) (fun t=>⟨[(0,.v (.d (.list true 6 l1))),(1,.v (.d (.int .i64 z14))),(4,.v (.d (.int .i64 0))),(5,.v (.d (.int .i64 z4))),(6,.v (.c (.ptr (.loc 448) 0))),(42,.v (.d (.bool t.2)))],[(.loc 448,.cells [.d (.int .u8 z8),.d (.int .i64 z9),.d (.str s10),.d (.list true 6 l11),.d (.int .i64 z12),.d (.list false 1 l13)])],1248⟩) (fun t=>t.1≤m2∧L92_3 t.1 l1 z4 s10 l11 l13 z14 t.2=some r1) ?_ ?_
 ·try cbv
  refine splitL (fun e=>?_) (fun e=>?_)
  ·replace h:=ite_t e h
   clear e
   try cbv
   exact join_next (m2,true) [0,1,4,5,6,42] [.loc 448] 1248 ⟨by omega,h⟩ (by cbv)
  replace h:=ite_f (Int.not_lt.2 e) h
  clear e
  try cbv
  replace h:=szF_inv M h
  obtain⟨z15,hz,h⟩:=h
  refine⟨z15,hz,?_⟩
  clear hz
  try cbv
  refine splitL (fun e=>?_) (fun e=>?_)
  ·replace h:=ite_t e h
   clear e
   try cbv
   exact join_next (m2,true) [0,1,4,5,6,42] [.loc 448] 1248 ⟨by omega,h⟩ (by cbv)
  replace h:=ite_f (Int.not_lt.2 e) h
  clear e
  try cbv
  replace h:=lenF_inv M h
  obtain⟨z16,hz,h⟩:=h
  refine⟨z16,hz,?_⟩
  clear hz
  try cbv
  replace h:=szF_inv M h
  obtain⟨z17,hz,h⟩:=h
  refine⟨z17,hz,?_⟩
  clear hz
  try cbv
  replace h:=letF_inv h
  obtain⟨z18,hz,h⟩:=h
  refine⟨z18,hz,?_⟩
  clear hz
  try cbv
  refine splitL (fun e=>?_) (fun e=>?_)
  ·replace h:=ite_t e h
   clear e
   try cbv
   exact join_next (m2,true) [0,1,4,5,6,42] [.loc 448] 1248 ⟨by omega,h⟩ (by cbv)
  replace h:=ite_f (Int.not_lt.2 e) h
  clear e
  try cbv
  exact join_next (m2,false) [0,1,4,5,6,42] [.loc 448] 1248 ⟨by omega,h⟩ (by cbv)
 clear h
 rintro⟨m3,b19⟩ ⟨hm3,h⟩
 replace hm3:m3≤m2:=hm3
 obtain _ | m3:=m3
 ·replace h:L92_3 0 l1 z4 s10 l11 l13 z14 b19=some r1:=h
  rw[L92_3]at h
  cases h
 replace h:L92_3 (m3+1) l1 z4 s10 l11 l13 z14 b19=some r1:=h
 rw[L92_3]at h
 try cbv
 cases b19
 rotate_left
 ·replace h:=ite_t rfl h
  try cbv
  refine seq_go ?_
  try cbv
  obtain rfl:=Option.some.inj h
  refine fin_go ?_
  try cbv
  exact⟨[],rfl,rfl,trivial,trivial,trivial⟩
 replace h:=ite_f Bool.false_ne_true h
 try cbv
 replace h:=szF_inv M h
 obtain⟨z20,hz,h⟩:=h
 refine⟨z20,hz,?_⟩
 clear hz
 try cbv
 replace h:=letF_inv h
 obtain⟨z21,hz,h⟩:=h
 refine⟨z21,hz,?_⟩
 clear hz
 try cbv
 replace h:=lenF_inv M h
 obtain⟨z22,hz,h⟩:=h
 refine⟨z22,hz,?_⟩
 clear hz
 try cbv
 replace h:=letF_inv h
 obtain⟨z23,hz,h⟩:=h
 refine⟨z23,hz,?_⟩
 clear hz
 try cbv
 replace h:=bO1_inv h
 obtain⟨z24,hr,h⟩:=h
 refine call_go rfl rfl ?_
 try cbv
 refine call_pure hM hI ((ih _ (by omega)) hr) rfl ?_
 clear hr
 try cbv
 replace h:=letF_inv h
 obtain⟨z25,hz,h⟩:=h
 refine⟨z25,hz,?_⟩
 clear hz
 try cbv
 exact loop_next (m3,(z24,z25)) [0,1,4,5] [] 64 ⟨by omega,h⟩ (Nat.lt_succ_of_le (by omega)) (by cbv)
mutual
def L36_2:Nat→(List D)→Int→Int→Option (Bool)
 | 0,_,_,_=>none
 | n+1,l1,z4,z5=>
  lenF l1 fun z6=>(if z5<z6 then L36_3 n l1 z4 z5 true else L36_3 n l1 z4 z5 false)
def L36_3:Nat→(List D)→Int→Int→Bool→Option (Bool)
 | 0,_,_,_,_=>none
 | n+1,l1,z4,z5,b7=>
  (if b7=true then getF l1 z5 fun x8=>ds_t61 x8 fun z9 z10 z11 z12 z13 s14 l15 z16 l17=>bO1 (F92 n ([.agg [.int .u8 z12,.int .i64 z13,.str s14,.list true 6 l15,.int .i64 z16,.list false 1 l17]]) z4) fun z18=>letF (IntKind.wrap .i64 (z5+1)) fun z19=>L36_2 n l1 z18 z19 else (if z4<(0:Int)then some true else some false))
end
def L36_1:Nat→(List D)→Bool→Option (Bool)
 | 0,_,_=>none
 | n+1,l1,b3=>
  (if b3=true then some true else L36_2 n l1 (10000:Int) (0:Int))
def F36 (n:Nat) (l1:List D):Option (Bool):=
 lenF l1 fun z2=>(if (100:Int)<z2 then L36_1 n l1 true else L36_1 n l1 false)
theorem T36 (n:Nat):∀⦃l1:List D⦄ ⦃r1:Bool⦄,F36 n l1=some r1→
    Trip Try.prog inv 36 [.d (.list true 9 l1)] [] (.v (.d (.bool r1))) [] []:=by
 intro l1 r1 h
 unfold F36 at h
 refine Trip.of tab_ok tab_one fol Try.func36 rfl (by kernel_rfl) rfl rfl rfl (fun M hM hI=>?_)
 try cbv
 refine seq_go ?_
 try cbv
 refine seq_go ?_
 try cbv
 refine seq_join (T:=Nat×Bool) (fun t=>⟨[(0,.v (.d (.list true 9 l1))),(2,.v (.d (.bool false))),(7,.v (.d (.bool t.2)))],[],128⟩) (fun t=>t.1≤n∧L36_1 t.1 l1 t.2=some r1) ?_ ?_
 ·try cbv
  replace h:=lenF_inv M h
  obtain⟨z2,hz,h⟩:=h
  refine⟨z2,hz,?_⟩
  clear hz
  try cbv
  refine splitL (fun e=>?_) (fun e=>?_)
  ·replace h:=ite_t e h
   clear e
   try cbv
   exact join_next (n,true) [0,2,7] [] 128 ⟨by omega,h⟩ (by cbv)
  replace h:=ite_f (Int.not_lt.2 e) h
  clear e
  try cbv
  exact join_next (n,false) [0,2,7] [] 128 ⟨by omega,h⟩ (by cbv)
 clear h
 rintro⟨m1,b3⟩ ⟨hm1,h⟩
 replace hm1:m1≤n:=hm1
 obtain _ | m1:=m1
 ·replace h:L36_1 0 l1 b3=some r1:=h
  rw[L36_1]at h
  cases h
 replace h:L36_1 (m1+1) l1 b3=some r1:=h
 rw[L36_1]at h
 try cbv
 cases b3
 rotate_left
 ·replace h:=ite_t rfl h
  try cbv
  refine seq_go ?_
  try cbv
  obtain rfl:=Option.some.inj h
  refine fin_go ?_
  try cbv
  exact⟨[],rfl,rfl,trivial,trivial,trivial⟩
 replace h:=ite_f Bool.false_ne_true h
 try cbv
 refine seq_go ?_
 try cbv
 refine seq_go ?_
 try cbv
 refine seq_go ?_
 try cbv
 refine loop_inv (T:=Nat×Int×Int) [0,2,3,4] [] 192 (fun t=>⟨[(0,.v (.d (.list true 9 l1))),(2,.v (.d (.bool false))),(3,.v (.d (.int .i64 t.2.1))),(4,.v (.d (.int .i64 t.2.2)))],[],192⟩)
   (fun t=>t.1≤m1∧L36_2 t.1 l1 t.2.1 t.2.2=some r1) (fun t=>t.1) (m1,((10000:Int),(0:Int))) ⟨Nat.le_refl _,h⟩ (by cbv) ?_
 clear h
 rintro⟨m2,z4,z5⟩ ⟨hm2,h⟩
 replace hm2:m2≤m1:=hm2
 obtain _ | m2:=m2
 ·replace h:L36_2 0 l1 z4 z5=some r1:=h
  rw[L36_2]at h
  cases h
 replace h:L36_2 (m2+1) l1 z4 z5=some r1:=h
 rw[L36_2]at h
 try cbv
 refine seq_go ?_
 try cbv
 refine seq_join (T:=Nat×Bool) (fun t=>⟨[(0,.v (.d (.list true 9 l1))),(2,.v (.d (.bool false))),(3,.v (.d (.int .i64 z4))),(4,.v (.d (.int .i64 z5))),(11,.v (.d (.bool t.2)))],[],320⟩) (fun t=>t.1≤m2∧L36_3 t.1 l1 z4 z5 t.2=some r1) ?_ ?_
 ·try cbv
  replace h:=lenF_inv M h
  obtain⟨z6,hz,h⟩:=h
  refine⟨z6,hz,?_⟩
  clear hz
  try cbv
  refine splitL (fun e=>?_) (fun e=>?_)
  ·replace h:=ite_t e h
   clear e
   try cbv
   exact join_next (m2,true) [0,2,3,4,11] [] 320 ⟨by omega,h⟩ (by cbv)
  replace h:=ite_f (Int.not_lt.2 e) h
  clear e
  try cbv
  exact join_next (m2,false) [0,2,3,4,11] [] 320 ⟨by omega,h⟩ (by cbv)
 clear h
 rintro⟨m3,b7⟩ ⟨hm3,h⟩
 replace hm3:m3≤m2:=hm3
 obtain _ | m3:=m3
 ·replace h:L36_3 0 l1 z4 z5 b7=some r1:=h
  rw[L36_3]at h
  cases h
 replace h:L36_3 (m3+1) l1 z4 z5 b7=some r1:=h
 rw[L36_3]at h
 try cbv
 cases b7
 ·replace h:=ite_f Bool.false_ne_true h
  try cbv
  refine seq_go ?_
  try cbv
  refine splitL (fun e=>?_) (fun e=>?_)
  ·replace h:=ite_t e h
   clear e
   try cbv
   obtain rfl:=Option.some.inj h
   refine fin_go ?_
   try cbv
   exact⟨[],rfl,rfl,trivial,trivial,trivial⟩
  replace h:=ite_f (Int.not_lt.2 e) h
  clear e
  try cbv
  obtain rfl:=Option.some.inj h
  refine fin_go ?_
  try cbv
  exact⟨[],rfl,rfl,trivial,trivial,trivial⟩
 replace h:=ite_t rfl h
 try cbv
 refine seq_go ?_
 try cbv
 replace h:=getF_inv h
 obtain⟨x8,⟨hx0,hx⟩,h⟩:=h
 refine⟨x8,hx0,hx,?_⟩
 clear hx0 hx
 replace h:=ds_t61_inv h
 obtain⟨z9,z10,z11,z12,z13,s14,l15,z16,l17,rfl,h⟩:=h
 try cbv
 refine⟨false,?_⟩
 try cbv
 refine⟨true,?_⟩
 try cbv
 replace h:=bO1_inv h
 obtain⟨z18,hr,h⟩:=h
 refine call_go rfl rfl ?_
 try cbv
 refine call_pure hM hI (T92 _ hr) rfl ?_
 clear hr
 try cbv
 replace h:=letF_inv h
 obtain⟨z19,hz,h⟩:=h
 refine⟨z19,hz,?_⟩
 clear hz
 try cbv
 exact loop_next (m3,(z18,z19)) [0,2,3,4] [] 192 ⟨by omega,h⟩ (Nat.lt_succ_of_le (by omega)) (by cbv)
mutual
def L98_2:Nat→(List D)→(List D)→Int→Option (Bool)
 | 0,_,_,_=>none
 | n+1,l1,l2,z6=>
  lenF l1 fun z7=>(if z6<z7 then L98_3 n l1 l2 z6 true else L98_3 n l1 l2 z6 false)
def L98_3:Nat→(List D)→(List D)→Int→Bool→Option (Bool)
 | 0,_,_,_,_=>none
 | n+1,l1,l2,z6,b8=>
  (if b8=true then getF l1 z6 fun x9=>ds_i64 x9 fun z10=>getF l2 z6 fun x11=>ds_i64 x11 fun z12=>(if z10=z12 then L98_4 n l1 l2 z6 false else L98_4 n l1 l2 z6 true)else some true)
def L98_4:Nat→(List D)→(List D)→Int→Bool→Option (Bool)
 | 0,_,_,_,_=>none
 | n+1,l1,l2,z6,b13=>
  (if b13=true then some false else letF (IntKind.wrap .i64 (z6+1)) fun z14=>L98_2 n l1 l2 z14)
end
def L98_1:Nat→(List D)→(List D)→Bool→Option (Bool)
 | 0,_,_,_=>none
 | n+1,l1,l2,b5=>
  (if b5=true then some false else L98_2 n l1 l2 (0:Int))
def F98 (n:Nat) (l1:List D) (l2:List D):Option (Bool):=
 lenF l1 fun z3=>lenF l2 fun z4=>(if z3=z4 then L98_1 n l1 l2 false else L98_1 n l1 l2 true)
theorem T98 (n:Nat):∀⦃l1:List D⦄ ⦃l2:List D⦄ ⦃r1:Bool⦄,F98 n l1 l2=some r1→
    Trip Try.prog inv 98 [.d (.list false 1 l1),.d (.list false 1 l2)] [] (.v (.d (.bool r1))) [] []:=by
 intro l1 l2 r1 h
 unfold F98 at h
 refine Trip.of tab_ok tab_one fol Try.func98 rfl (by kernel_rfl) rfl rfl rfl (fun M hM hI=>?_)
 try cbv
 refine seq_go ?_
 try cbv
 refine seq_go ?_
 try cbv
 refine seq_join (T:=Nat×Bool) (fun t=>⟨[(0,.v (.d (.list false 1 l1))),(1,.v (.d (.list false 1 l2))),(4,.v (.d (.bool false))),(10,.v (.d (.bool t.2)))],[],192⟩) (fun t=>t.1≤n∧L98_1 t.1 l1 l2 t.2=some r1) ?_ ?_
 ·try cbv
  replace h:=lenF_inv M h
  obtain⟨z3,hz,h⟩:=h
  refine⟨z3,hz,?_⟩
  clear hz
  try cbv
  replace h:=lenF_inv M h
  obtain⟨z4,hz,h⟩:=h
  refine⟨z4,hz,?_⟩
  clear hz
  try cbv
  refine splitI (fun e=>?_) (fun e=>?_)
  ·replace h:=ite_t e h
   clear e
   try cbv
   exact join_next (n,false) [0,1,4,10] [] 192 ⟨by omega,h⟩ (by cbv)
  replace h:=ite_f e h
  clear e
  try cbv
  exact join_next (n,true) [0,1,4,10] [] 192 ⟨by omega,h⟩ (by cbv)
 clear h
 rintro⟨m1,b5⟩ ⟨hm1,h⟩
 replace hm1:m1≤n:=hm1
 obtain _ | m1:=m1
 ·replace h:L98_1 0 l1 l2 b5=some r1:=h
  rw[L98_1]at h
  cases h
 replace h:L98_1 (m1+1) l1 l2 b5=some r1:=h
 rw[L98_1]at h
 try cbv
 cases b5
 rotate_left
 ·replace h:=ite_t rfl h
  try cbv
  refine seq_go ?_
  try cbv
  obtain rfl:=Option.some.inj h
  refine fin_go ?_
  try cbv
  exact⟨[],rfl,rfl,trivial,trivial,trivial⟩
 replace h:=ite_f Bool.false_ne_true h
 try cbv
 refine seq_go ?_
 try cbv
 refine seq_go ?_
 try cbv
 refine loop_inv (T:=Nat×Int) [0,1,4,5] [] 224 (fun t=>⟨[(0,.v (.d (.list false 1 l1))),(1,.v (.d (.list false 1 l2))),(4,.v (.d (.bool false))),(5,.v (.d (.int .i64 t.2)))],[],224⟩)
   (fun t=>t.1≤m1∧L98_2 t.1 l1 l2 t.2=some r1) (fun t=>t.1) (m1,(0:Int)) ⟨Nat.le_refl _,h⟩ (by cbv) ?_
 clear h
 rintro⟨m2,z6⟩ ⟨hm2,h⟩
 replace hm2:m2≤m1:=hm2
 obtain _ | m2:=m2
 ·replace h:L98_2 0 l1 l2 z6=some r1:=h
  rw[L98_2]at h
  cases h
 replace h:L98_2 (m2+1) l1 l2 z6=some r1:=h
 rw[L98_2]at h
 try cbv
 refine seq_go ?_
 try cbv
 refine seq_join (T:=Nat×Bool) (fun t=>⟨[(0,.v (.d (.list false 1 l1))),(1,.v (.d (.list false 1 l2))),(4,.v (.d (.bool false))),(5,.v (.d (.int .i64 z6))),(14,.v (.d (.bool t.2)))],[],352⟩) (fun t=>t.1≤m2∧L98_3 t.1 l1 l2 z6 t.2=some r1) ?_ ?_
 ·try cbv
  replace h:=lenF_inv M h
  obtain⟨z7,hz,h⟩:=h
  refine⟨z7,hz,?_⟩
  clear hz
  try cbv
  refine splitL (fun e=>?_) (fun e=>?_)
  ·replace h:=ite_t e h
   clear e
   try cbv
   exact join_next (m2,true) [0,1,4,5,14] [] 352 ⟨by omega,h⟩ (by cbv)
  replace h:=ite_f (Int.not_lt.2 e) h
  clear e
  try cbv
  exact join_next (m2,false) [0,1,4,5,14] [] 352 ⟨by omega,h⟩ (by cbv)
 clear h
 rintro⟨m3,b8⟩ ⟨hm3,h⟩
 replace hm3:m3≤m2:=hm3
 obtain _ | m3:=m3
 ·replace h:L98_3 0 l1 l2 z6 b8=some r1:=h
  rw[L98_3]at h
  cases h
 replace h:L98_3 (m3+1) l1 l2 z6 b8=some r1:=h
 rw[L98_3]at h
 try cbv
 cases b8
 ·replace h:=ite_f Bool.false_ne_true h
  try cbv
  refine seq_go ?_
  try cbv
  obtain rfl:=Option.some.inj h
  refine fin_go ?_
  try cbv
  exact⟨[],rfl,rfl,trivial,trivial,trivial⟩
 replace h:=ite_t rfl h
 try cbv
 refine seq_go ?_
 try cbv
 refine seq_join (T:=Nat×Bool) (fun t=>⟨[(0,.v (.d (.list false 1 l1))),(1,.v (.d (.list false 1 l2))),(4,.v (.d (.bool false))),(5,.v (.d (.int .i64 z6))),(25,.v (.d (.bool t.2)))],[],640⟩) (fun t=>t.1≤m3∧L98_4 t.1 l1 l2 z6 t.2=some r1) ?_ ?_
 ·try cbv
  replace h:=getF_inv h
  obtain⟨x9,⟨hx0,hx⟩,h⟩:=h
  refine⟨x9,hx0,hx,?_⟩
  clear hx0 hx
  replace h:=ds_i64_inv h
  obtain⟨z10,rfl,h⟩:=h
  try cbv
  replace h:=getF_inv h
  obtain⟨x11,⟨hx0,hx⟩,h⟩:=h
  refine⟨x11,hx0,hx,?_⟩
  clear hx0 hx
  replace h:=ds_i64_inv h
  obtain⟨z12,rfl,h⟩:=h
  try cbv
  refine splitI (fun e=>?_) (fun e=>?_)
  ·replace h:=ite_t e h
   clear e
   try cbv
   refine drawn ?_ ?_
   ·show _=true
    kernel_rfl
   try cbv
   exact join_next (m3,false) [0,1,4,5,25] [] 640 ⟨by omega,h⟩ (by cbv)
  replace h:=ite_f e h
  clear e
  try cbv
  refine drawn ?_ ?_
  ·show _=true
   kernel_rfl
  try cbv
  exact join_next (m3,true) [0,1,4,5,25] [] 640 ⟨by omega,h⟩ (by cbv)
 clear h
 rintro⟨m4,b13⟩ ⟨hm4,h⟩
 replace hm4:m4≤m3:=hm4
 obtain _ | m4:=m4
 ·replace h:L98_4 0 l1 l2 z6 b13=some r1:=h
  rw[L98_4]at h
  cases h
 replace h:L98_4 (m4+1) l1 l2 z6 b13=some r1:=h
 rw[L98_4]at h
 try cbv
 cases b13
 ·replace h:=ite_f Bool.false_ne_true h
  try cbv
  replace h:=letF_inv h
  obtain⟨z14,hz,h⟩:=h
  refine⟨z14,hz,?_⟩
  clear hz
  try cbv
  exact loop_next (m4,z14) [0,1,4,5] [] 224 ⟨by omega,h⟩ (Nat.lt_succ_of_le (by omega)) (by cbv)
 replace h:=ite_t rfl h
 try cbv
 refine seq_go ?_
 try cbv
 obtain rfl:=Option.some.inj h
 refine fin_go ?_
 try cbv
 exact⟨[],rfl,rfl,trivial,trivial,trivial⟩
mutual
def F34:Nat→Int→Int→ByteArray→(List D)→Int→(List D)→Int→Int→ByteArray→(List D)→Int→(List D)→Option (Bool)
 | 0,_,_,_,_,_,_,_,_,_,_,_,_=>none
 | n+1,z1,z2,s3,l4,z5,l6,z7,z8,s9,l10,z11,l12=>
  (if z1=z7 then (if z2=z8 then (if s3=s9 then (if z5=z11 then bO1 (F98 n l6 l12) fun b13=>(if b13=true then bO1 (F48 n l4 l10) fun b14=>some b14 else some false)else some false)else some false)else some false)else some false)
def L48_1:Nat→(List D)→(List D)→Bool→Option (Bool)
 | 0,_,_,_=>none
 | n+1,l1,l2,b5=>
  (if b5=true then some false else L48_2 n l1 l2 (0:Int))
def L48_2:Nat→(List D)→(List D)→Int→Option (Bool)
 | 0,_,_,_=>none
 | n+1,l1,l2,z6=>
  lenF l1 fun z7=>(if z6<z7 then L48_3 n l1 l2 z6 true else L48_3 n l1 l2 z6 false)
def L48_3:Nat→(List D)→(List D)→Int→Bool→Option (Bool)
 | 0,_,_,_,_=>none
 | n+1,l1,l2,z6,b8=>
  (if b8=true then getF l1 z6 fun x9=>ds_t49 x9 fun z10 z11 s12 l13 z14 l15=>getF l2 z6 fun x16=>ds_t49 x16 fun z17 z18 s19 l20 z21 l22=>bO1 (F34 n z10 z11 s12 l13 z14 l15 z17 z18 s19 l20 z21 l22) fun b23=>letB (!b23) fun b24=>(if b24=true then some false else letF (IntKind.wrap .i64 (z6+1)) fun z25=>L48_2 n l1 l2 z25)else some true)
def F48:Nat→(List D)→(List D)→Option (Bool)
 | 0,_,_=>none
 | n+1,l1,l2=>
  lenF l1 fun z3=>lenF l2 fun z4=>(if z3=z4 then L48_1 n l1 l2 false else L48_1 n l1 l2 true)
end
theorem G34 (n:Nat):(∀⦃z1:Int⦄ ⦃z2:Int⦄ ⦃s3:ByteArray⦄ ⦃l4:List D⦄ ⦃z5:Int⦄ ⦃l6:List D⦄ ⦃z7:Int⦄ ⦃z8:Int⦄ ⦃s9:ByteArray⦄ ⦃l10:List D⦄ ⦃z11:Int⦄ ⦃l12:List D⦄ ⦃r1:Bool⦄,F34 n z1 z2 s3 l4 z5 l6 z7 z8 s9 l10 z11 l12=some r1→
    Trip Try.prog inv 34 [.d (.agg [.int .u8 z1,.int .i64 z2,.str s3,.list true 6 l4,.int .i64 z5,.list false 1 l6]),.d (.agg [.int .u8 z7,.int .i64 z8,.str s9,.list true 6 l10,.int .i64 z11,.list false 1 l12])] [] (.v (.d (.bool r1))) [] [])∧
    (∀⦃l1:List D⦄ ⦃l2:List D⦄ ⦃r1:Bool⦄,F48 n l1 l2=some r1→
    Trip Try.prog inv 48 [.d (.list true 6 l1),.d (.list true 6 l2)] [] (.v (.d (.bool r1))) [] []):=by
 induction n using Nat.strongRecOn with | _ n ih=>
 obtain _ | n:=n
 ·refine⟨?_,?_⟩
  ·intro z1 z2 s3 l4 z5 l6 z7 z8 s9 l10 z11 l12 r1 h
   cases (show (none:Option _)=some _ from h)
  intro l1 l2 r1 h
  cases (show (none:Option _)=some _ from h)
 refine⟨?_,?_⟩
 ·intro z1 z2 s3 l4 z5 l6 z7 z8 s9 l10 z11 l12 r1 h
  rw[F34]at h
  refine Trip.of tab_ok tab_one fol Try.func34 rfl (by kernel_rfl) rfl rfl rfl (fun M hM hI=>?_)
  try cbv
  refine seq_go ?_
  try cbv
  refine seq_go ?_
  try cbv
  refine splitI (fun e=>?_) (fun e=>?_)
  rotate_left
  ·replace h:=ite_f e h
   clear e
   try cbv
   obtain rfl:=Option.some.inj h
   refine fin_go ?_
   try cbv
   exact⟨[],rfl,rfl,trivial,trivial,trivial⟩
  replace h:=ite_t e h
  clear e
  try cbv
  refine splitI (fun e=>?_) (fun e=>?_)
  rotate_left
  ·replace h:=ite_f e h
   clear e
   try cbv
   obtain rfl:=Option.some.inj h
   refine fin_go ?_
   try cbv
   exact⟨[],rfl,rfl,trivial,trivial,trivial⟩
  replace h:=ite_t e h
  clear e
  try cbv
  refine splitS (fun e=>?_) (fun e=>?_)
  rotate_left
  ·replace h:=ite_f (bytes_ne.1 e) h
   clear e
   try cbv
   obtain rfl:=Option.some.inj h
   refine fin_go ?_
   try cbv
   exact⟨[],rfl,rfl,trivial,trivial,trivial⟩
  replace h:=ite_t (bytes_eq.1 e) h
  clear e
  try cbv
  refine splitI (fun e=>?_) (fun e=>?_)
  rotate_left
  ·replace h:=ite_f e h
   clear e
   try cbv
   obtain rfl:=Option.some.inj h
   refine fin_go ?_
   try cbv
   exact⟨[],rfl,rfl,trivial,trivial,trivial⟩
  replace h:=ite_t e h
  clear e
  try cbv
  replace h:=bO1_inv h
  obtain⟨b13,hr,h⟩:=h
  refine call_go rfl rfl ?_
  try cbv
  refine call_pure hM hI (T98 _ hr) rfl ?_
  clear hr
  try cbv
  cases b13
  ·replace h:=ite_f Bool.false_ne_true h
   try cbv
   obtain rfl:=Option.some.inj h
   refine fin_go ?_
   try cbv
   exact⟨[],rfl,rfl,trivial,trivial,trivial⟩
  replace h:=ite_t rfl h
  try cbv
  replace h:=bO1_inv h
  obtain⟨b14,hr,h⟩:=h
  refine call_go rfl rfl ?_
  try cbv
  refine call_pure hM hI ((ih _ (by omega)).2 hr) rfl ?_
  clear hr
  try cbv
  obtain rfl:=Option.some.inj h
  refine fin_go ?_
  try cbv
  exact⟨[],rfl,rfl,trivial,trivial,trivial⟩
 intro l1 l2 r1 h
 rw[F48]at h
 refine Trip.of tab_ok tab_one fol Try.func48 rfl (by kernel_rfl) rfl rfl rfl (fun M hM hI=>?_)
 try cbv
 refine seq_go ?_
 try cbv
 refine seq_go ?_
 try cbv
 refine seq_join (T:=Nat×Bool) (fun t=>⟨[(0,.v (.d (.list true 6 l1))),(1,.v (.d (.list true 6 l2))),(4,.v (.d (.bool false))),(10,.v (.d (.bool t.2)))],[],192⟩) (fun t=>t.1≤n∧L48_1 t.1 l1 l2 t.2=some r1) ?_ ?_
 ·try cbv
  replace h:=lenF_inv M h
  obtain⟨z3,hz,h⟩:=h
  refine⟨z3,hz,?_⟩
  clear hz
  try cbv
  replace h:=lenF_inv M h
  obtain⟨z4,hz,h⟩:=h
  refine⟨z4,hz,?_⟩
  clear hz
  try cbv
  refine splitI (fun e=>?_) (fun e=>?_)
  ·replace h:=ite_t e h
   clear e
   try cbv
   exact join_next (n,false) [0,1,4,10] [] 192 ⟨by omega,h⟩ (by cbv)
  replace h:=ite_f e h
  clear e
  try cbv
  exact join_next (n,true) [0,1,4,10] [] 192 ⟨by omega,h⟩ (by cbv)
 clear h
 rintro⟨m1,b5⟩ ⟨hm1,h⟩
 replace hm1:m1≤n:=hm1
 obtain _ | m1:=m1
 ·replace h:L48_1 0 l1 l2 b5=some r1:=h
  rw[L48_1]at h
  cases h
 replace h:L48_1 (m1+1) l1 l2 b5=some r1:=h
 rw[L48_1]at h
 try cbv
 cases b5
 rotate_left
 ·replace h:=ite_t rfl h
  try cbv
  refine seq_go ?_
  try cbv
  obtain rfl:=Option.some.inj h
  refine fin_go ?_
  try cbv
  exact⟨[],rfl,rfl,trivial,trivial,trivial⟩
 replace h:=ite_f Bool.false_ne_true h
 try cbv
 refine seq_go ?_
 try cbv
 refine seq_go ?_
 try cbv
 refine loop_inv (T:=Nat×Int) [0,1,4,5] [] 224 (fun t=>⟨[(0,.v (.d (.list true 6 l1))),(1,.v (.d (.list true 6 l2))),(4,.v (.d (.bool false))),(5,.v (.d (.int .i64 t.2)))],[],224⟩)
   (fun t=>t.1≤m1∧L48_2 t.1 l1 l2 t.2=some r1) (fun t=>t.1) (m1,(0:Int)) ⟨Nat.le_refl _,h⟩ (by cbv) ?_
 clear h
 rintro⟨m2,z6⟩ ⟨hm2,h⟩
 replace hm2:m2≤m1:=hm2
 obtain _ | m2:=m2
 ·replace h:L48_2 0 l1 l2 z6=some r1:=h
  rw[L48_2]at h
  cases h
 replace h:L48_2 (m2+1) l1 l2 z6=some r1:=h
 rw[L48_2]at h
 try cbv
 refine seq_go ?_
 try cbv
 refine seq_join (T:=Nat×Bool) (fun t=>⟨[(0,.v (.d (.list true 6 l1))),(1,.v (.d (.list true 6 l2))),(4,.v (.d (.bool false))),(5,.v (.d (.int .i64 z6))),(14,.v (.d (.bool t.2)))],[],352⟩) (fun t=>t.1≤m2∧L48_3 t.1 l1 l2 z6 t.2=some r1) ?_ ?_
 ·try cbv
  replace h:=lenF_inv M h
  obtain⟨z7,hz,h⟩:=h
  refine⟨z7,hz,?_⟩
  clear hz
  try cbv
  refine splitL (fun e=>?_) (fun e=>?_)
  ·replace h:=ite_t e h
   clear e
   try cbv
   exact join_next (m2,true) [0,1,4,5,14] [] 352 ⟨by omega,h⟩ (by cbv)
  replace h:=ite_f (Int.not_lt.2 e) h
  clear e
  try cbv
  exact join_next (m2,false) [0,1,4,5,14] [] 352 ⟨by omega,h⟩ (by cbv)
 clear h
 rintro⟨m3,b8⟩ ⟨hm3,h⟩
 replace hm3:m3≤m2:=hm3
 obtain _ | m3:=m3
 ·replace h:L48_3 0 l1 l2 z6 b8=some r1:=h
  rw[L48_3]at h
  cases h
 replace h:L48_3 (m3+1) l1 l2 z6 b8=some r1:=h
 rw[L48_3]at h
 try cbv
 cases b8
 ·replace h:=ite_f Bool.false_ne_true h
  try cbv
  refine seq_go ?_
  try cbv
  obtain rfl:=Option.some.inj h
  refine fin_go ?_
  try cbv
  exact⟨[],rfl,rfl,trivial,trivial,trivial⟩
 replace h:=ite_t rfl h
 try cbv
 refine seq_go ?_
 try cbv
 refine seq_go ?_
 try cbv
 replace h:=getF_inv h
 obtain⟨x9,⟨hx0,hx⟩,h⟩:=h
 refine⟨x9,hx0,hx,?_⟩
 clear hx0 hx
 replace h:=ds_t49_inv h
 obtain⟨z10,z11,s12,l13,z14,l15,rfl,h⟩:=h
 try cbv
 replace h:=getF_inv h
 obtain⟨x16,⟨hx0,hx⟩,h⟩:=h
 refine⟨x16,hx0,hx,?_⟩
 clear hx0 hx
 replace h:=ds_t49_inv h
 obtain⟨z17,z18,s19,l20,z21,l22,rfl,h⟩:=h
 try cbv
 replace h:=bO1_inv h
 obtain⟨b23,hr,h⟩:=h
 first | refine .inr (.inl ⟨[],?_⟩) | refine .inl ⟨[],?_⟩
 try cbv
 refine call_pure hM hI ((ih _ (by omega)).1 hr) rfl ?_
 clear hr
 try cbv
 replace h:=letB_inv h
 obtain⟨b24,hz,h⟩:=h
 refine⟨b24,not_eq' hz,?_⟩
 clear hz
 try cbv
 refine drawn ?_ ?_
 ·show _=true
  kernel_rfl
 try cbv
 cases b24
 ·replace h:=ite_f Bool.false_ne_true h
  try cbv
  replace h:=letF_inv h
  obtain⟨z25,hz,h⟩:=h
  refine⟨z25,hz,?_⟩
  clear hz
  try cbv
  exact loop_next (m3,z25) [0,1,4,5] [] 224 ⟨by omega,h⟩ (Nat.lt_succ_of_le (by omega)) (by cbv)
 replace h:=ite_t rfl h
 try cbv
 refine seq_go ?_
 try cbv
 obtain rfl:=Option.some.inj h
 refine fin_go ?_
 try cbv
 exact⟨[],rfl,rfl,trivial,trivial,trivial⟩
theorem T34 (n:Nat):∀⦃z1:Int⦄ ⦃z2:Int⦄ ⦃s3:ByteArray⦄ ⦃l4:List D⦄ ⦃z5:Int⦄ ⦃l6:List D⦄ ⦃z7:Int⦄ ⦃z8:Int⦄ ⦃s9:ByteArray⦄ ⦃l10:List D⦄ ⦃z11:Int⦄ ⦃l12:List D⦄ ⦃r1:Bool⦄,F34 n z1 z2 s3 l4 z5 l6 z7 z8 s9 l10 z11 l12=some r1→
  Trip Try.prog inv 34 [.d (.agg [.int .u8 z1,.int .i64 z2,.str s3,.list true 6 l4,.int .i64 z5,.list false 1 l6]),.d (.agg [.int .u8 z7,.int .i64 z8,.str s9,.list true 6 l10,.int .i64 z11,.list false 1 l12])] [] (.v (.d (.bool r1))) [] []:=(G34 n).1
theorem T48 (n:Nat):∀⦃l1:List D⦄ ⦃l2:List D⦄ ⦃r1:Bool⦄,F48 n l1 l2=some r1→
  Trip Try.prog inv 48 [.d (.list true 6 l1),.d (.list true 6 l2)] [] (.v (.d (.bool r1))) [] []:=(G34 n).2
def L141_1:Nat→(List D)→Bool→Option (List D)
 | 0,_,_=>none
 | n+1,l1,b2=>
  (if b2=true then some ([]:List D)else appF 8 [] l1 fun l3=>some l3)
def F141 (n:Nat) (l1:List D):Option (List D):=
 (nilF l1 (L141_1 n l1 true) (L141_1 n l1 false))
theorem T141 (n:Nat):∀⦃l1:List D⦄ ⦃r1:List D⦄,F141 n l1=some r1→
    Trip Try.prog inv 141 [.d (.list false 1 l1)] [] (.v (.d (.list false 1 r1))) [] []:=by
 intro l1 r1 h
 unfold F141 at h
 refine Trip.of tab_ok tab_one fol Try.func141 rfl (by kernel_rfl) rfl rfl rfl (fun M hM hI=>?_)
 try cbv
 refine seq_go ?_
 try cbv
 refine seq_go ?_
 try cbv
 refine seq_join (T:=Nat×Bool) (fun t=>⟨[(0,.v (.d (.list false 1 l1))),(2,.v (.c (.nils false 1))),(4,.v (.d (.bool t.2)))],[],96⟩) (fun t=>t.1≤n∧L141_1 t.1 l1 t.2=some r1) ?_ ?_
 ·try cbv
  replace h:=nilF_inv h
  obtain⟨h,hA⟩:=h
  refine nil_both ?_ (fun e=>?_)
  ·clear hA
   try cbv
   exact join_next (n,false) [0,2,4] [] 96 ⟨by omega,h⟩ (by cbv)
  replace h:=hA e
  clear hA
  try cbv
  exact join_next (n,true) [0,2,4] [] 96 ⟨by omega,h⟩ (by cbv)
 clear h
 rintro⟨m1,b2⟩ ⟨hm1,h⟩
 replace hm1:m1≤n:=hm1
 obtain _ | m1:=m1
 ·replace h:L141_1 0 l1 b2=some r1:=h
  rw[L141_1]at h
  cases h
 replace h:L141_1 (m1+1) l1 b2=some r1:=h
 rw[L141_1]at h
 try cbv
 cases b2
 ·replace h:=ite_f Bool.false_ne_true h
  try cbv
  refine seq_go ?_
  try cbv
  refine⟨false,?_⟩
  try cbv
  refine⟨true,?_⟩
  try cbv
  replace h:=appF_inv h
  obtain⟨l3,hb,hz,h⟩:=h
  refine⟨false,?_⟩
  try cbv
  refine⟨(M.lock_iff _).2 hb,l3,hz,false,?_⟩
  clear hb hz
  try cbv
  obtain rfl:=Option.some.inj h
  refine fin_go ?_
  try cbv
  exact⟨[],rfl,rfl,trivial,trivial,trivial⟩
 replace h:=ite_t rfl h
 try cbv
 refine seq_go ?_
 try cbv
 obtain rfl:=Option.some.inj h
 refine fin_go ?_
 try cbv
 exact⟨[],rfl,rfl,trivial,trivial,trivial⟩
mutual
def L95_1:Nat→Int→Int→ByteArray→(List D)→Int→(List D)→Int→(List D)→Int→Option (Int×Int×ByteArray×List D×Int×List D)
 | 0,_,_,_,_,_,_,_,_,_=>none
 | n+1,z1,z2,s3,l4,z5,l6,z7,l8,z9=>
  (if z9<z7 then L95_2 n z1 z2 s3 l4 z5 l6 z7 l8 z9 true else L95_2 n z1 z2 s3 l4 z5 l6 z7 l8 z9 false)
def L95_2:Nat→Int→Int→ByteArray→(List D)→Int→(List D)→Int→(List D)→Int→Bool→Option (Int×Int×ByteArray×List D×Int×List D)
 | 0,_,_,_,_,_,_,_,_,_,_=>none
 | n+1,z1,z2,s3,l4,z5,l6,z7,l8,z9,b10=>
  (if b10=true then getF l4 z9 fun x11=>ds_t49 x11 fun z12 z13 s14 l15 z16 l17=>bO6 (F95 n z12 z13 s14 l15 z16 l17) fun z18 z19 s20 l21 z22 l23=>appF 88 l8 ([.agg [.int .u8 z18,.int .i64 z19,.str s20,.list true 6 l21,.int .i64 z22,.list false 1 l23]]) fun l24=>letF (IntKind.wrap .i64 (z9+1)) fun z25=>L95_1 n z1 z2 s3 l4 z5 l6 z7 l24 z25 else bO1 (F141 n l6) fun l26=>some (z1,z2,s3,l8,z5,l26))
def F95:Nat→Int→Int→ByteArray→(List D)→Int→(List D)→Option (Int×Int×ByteArray×List D×Int×List D)
 | 0,_,_,_,_,_,_=>none
 | n+1,z1,z2,s3,l4,z5,l6=>
  lenF l4 fun z7=>L95_1 n z1 z2 s3 l4 z5 l6 z7 ([]:List D) (0:Int)
end
theorem T95 (n:Nat):∀⦃z1:Int⦄ ⦃z2:Int⦄ ⦃s3:ByteArray⦄ ⦃l4:List D⦄ ⦃z5:Int⦄ ⦃l6:List D⦄ ⦃r1:Int⦄ ⦃r2:Int⦄ ⦃r3:ByteArray⦄ ⦃r4:List D⦄ ⦃r5:Int⦄ ⦃r6:List D⦄,F95 n z1 z2 s3 l4 z5 l6=some (r1,r2,r3,r4,r5,r6)→
    Trip Try.prog inv 95 [.d (.agg [.int .u8 z1,.int .i64 z2,.str s3,.list true 6 l4,.int .i64 z5,.list false 1 l6])] [] (.v (.d (.agg [.int .u8 r1,.int .i64 r2,.str r3,.list true 6 r4,.int .i64 r5,.list false 1 r6]))) [] []:=by
 induction n using Nat.strongRecOn with | _ n ih=>
 obtain _ | n:=n
 ·intro z1 z2 s3 l4 z5 l6 r1 r2 r3 r4 r5 r6 h
  cases (show (none:Option _)=some _ from h)
 intro z1 z2 s3 l4 z5 l6 r1 r2 r3 r4 r5 r6 h
 rw[F95]at h
 refine Trip.of tab_ok tab_one fol Try.func95 rfl (by kernel_rfl) rfl rfl rfl (fun M hM hI=>?_)
 try cbv
 refine seq_go ?_
 try cbv
 refine seq_go ?_
 try cbv
 refine seq_go ?_
 try cbv
 refine seq_go ?_
 try cbv
 replace h:=lenF_inv M h
 obtain⟨z7,hz,h⟩:=h
 refine⟨z7,hz,?_⟩
 clear hz
 try cbv
 refine loop_invT (T:=Nat×List D×Int) [.slot 3 true 6 49] [1,2,3,7,8,9] [.loc 0,.loc 32,.loc 224] 256 (fun t=>⟨[(1,.v (.c (.ptr (.loc 0) 0))),(2,.v (.c (.ptr (.loc 32) 0))),(3,.v (.c (.lst (.loc 224) true 6 t.2.1))),(7,.v (.d (.list true 6 l4))),(8,.v (.d (.int .i64 z7))),(9,.v (.d (.int .i64 t.2.2)))],[(.loc 0,.cells [.d (.int .u8 z1),.d (.int .i64 z2),.d (.str s3),.d (.list true 6 l4),.d (.int .i64 z5),.d (.list false 1 l6)]),(.loc 32,.cells [.d (.int .u8 0),.d (.int .i64 0),.d (.str ByteArray.empty),.nils true 6,.d (.int .i64 0),.nils false 1]),(.loc 224,.tok t.2.1.length 6 49)],256⟩)
   (fun t=>t.1≤n∧L95_1 t.1 z1 z2 s3 l4 z5 l6 z7 t.2.1 t.2.2=some (r1,r2,r3,r4,r5,r6)) (fun t=>t.1) (n,(([]:List D),(0:Int))) ⟨Nat.le_refl _,h⟩ (by cbv) ?_
 clear h
 rintro⟨m1,l8,z9⟩ ⟨hm1,h⟩
 replace hm1:m1≤n:=hm1
 obtain _ | m1:=m1
 ·replace h:L95_1 0 z1 z2 s3 l4 z5 l6 z7 l8 z9=some (r1,r2,r3,r4,r5,r6):=h
  rw[L95_1]at h
  cases h
 replace h:L95_1 (m1+1) z1 z2 s3 l4 z5 l6 z7 l8 z9=some (r1,r2,r3,r4,r5,r6):=h
 rw[L95_1]at h
 try cbv
 refine seq_join (T:=Nat×Bool) (fun t=>⟨[(1,.v (.c (.ptr (.loc 0) 0))),(2,.v (.c (.ptr (.loc 32) 0))),(3,.v (.c (.lst (.loc 224) true 6 l8))),(7,.v (.d (.list true 6 l4))),(8,.v (.d (.int .i64 z7))),(9,.v (.d (.int .i64 z9))),(10,.v (.d (.bool t.2)))],[(.loc 0,.cells [.d (.int .u8 z1),.d (.int .i64 z2),.d (.str s3),.d (.list true 6 l4),.d (.int .i64 z5),.d (.list false 1 l6)]),(.loc 32,.cells [.d (.int .u8 0),.d (.int .i64 0),.d (.str ByteArray.empty),.nils true 6,.d (.int .i64 0),.nils false 1]),(.loc 224,.tok l8.length 6 49)],288⟩) (fun t=>t.1≤m1∧L95_2 t.1 z1 z2 s3 l4 z5 l6 z7 l8 z9 t.2=some (r1,r2,r3,r4,r5,r6)) ?_ ?_
 ·try cbv
  refine splitL (fun e=>?_) (fun e=>?_)
  ·replace h:=ite_t e h
   clear e
   try cbv
   exact join_next (m1,true) [1,2,3,7,8,9,10] [.loc 0,.loc 32,.loc 224] 288 ⟨by omega,h⟩ (by cbv)
  replace h:=ite_f (Int.not_lt.2 e) h
  clear e
  try cbv
  exact join_next (m1,false) [1,2,3,7,8,9,10] [.loc 0,.loc 32,.loc 224] 288 ⟨by omega,h⟩ (by cbv)
 clear h
 rintro⟨m2,b10⟩ ⟨hm2,h⟩
 replace hm2:m2≤m1:=hm2
 obtain _ | m2:=m2
 ·replace h:L95_2 0 z1 z2 s3 l4 z5 l6 z7 l8 z9 b10=some (r1,r2,r3,r4,r5,r6):=h
  rw[L95_2]at h
  cases h
 replace h:L95_2 (m2+1) z1 z2 s3 l4 z5 l6 z7 l8 z9 b10=some (r1,r2,r3,r4,r5,r6):=h
 rw[L95_2]at h
 try cbv
 refine seq_go ?_
 try cbv
 cases b10
 ·replace h:=ite_f Bool.false_ne_true h
  try cbv
  refine seq_go ?_
  try cbv
  replace h:=bO1_inv h
  obtain⟨l26,hr,h⟩:=h
  refine call_go rfl rfl ?_
  try cbv
  refine call_pure hM hI (T141 _ hr) rfl ?_
  clear hr
  try cbv
  refine seq_go ?_
  try cbv
  obtain⟨rfl,rfl,rfl,rfl,rfl,rfl⟩:=inj6 h
  refine fin_go ?_
  try cbv
  exact⟨[],rfl,rfl,trivial,trivial,trivial⟩
 replace h:=ite_t rfl h
 try cbv
 refine seq_go ?_
 try cbv
 refine seq_go ?_
 try cbv
 replace h:=getF_inv h
 obtain⟨x11,⟨hx0,hx⟩,h⟩:=h
 refine⟨x11,hx0,hx,?_⟩
 clear hx0 hx
 replace h:=ds_t49_inv h
 obtain⟨z12,z13,s14,l15,z16,l17,rfl,h⟩:=h
 try cbv
 replace h:=bO6_inv h
 obtain⟨z18,z19,s20,l21,z22,l23,hr,h⟩:=h
 refine call_go rfl rfl ?_
 try cbv
 refine call_pure hM hI ((ih _ (by omega)) hr) rfl ?_
 clear hr
 try cbv
 refine⟨false,?_⟩
 try cbv
 refine⟨true,?_⟩
 try cbv
 replace h:=appF_inv h
 obtain⟨l24,hb,hz,h⟩:=h
 refine⟨false,?_⟩
 try cbv
 first | refine⟨rfl,(M.lock_iff _).2 hb,l24,hz,?_⟩ | refine⟨(M.lock_iff _).2 hb,l24,hz,?_⟩
 clear hb hz
 try cbv
 replace h:=letF_inv h
 obtain⟨z25,hz,h⟩:=h
 refine⟨z25,hz,?_⟩
 clear hz
 try cbv
 exact loop_next (m2,(l24,z25)) [1,2,3,7,8,9] [.loc 0,.loc 32,.loc 224] 256 ⟨by omega,h⟩ (Nat.lt_succ_of_le (by omega)) (by cbv)
end Go.Proofs.Ytiiojajgajnhpaa
end
set_option linter.unusedVariables false
noncomputable section
namespace Go.Proofs.Ytiiojajgajnhpaa
open Go Go.AM
theorem iw {z:Int}(h1: -9223372036854775808≤z) (h2:z≤9223372036854775807):IntKind.i64.wrap z=z:=IntWalk.i64_in _ (by omega)
theorem ilt {i n:Nat}(h:i<n):(i:Int)<(n:Int):=by omega
theorem need_pos {γ:Type}{p:Prop} [Decidable p] (h:p) (x:Option γ):needF p x=x:=if_pos h
theorem appF_ok {γ:Type}{b:Nat}{L M:List D}{k:List D→Option γ}(h:L.length+M.length≤maxLen∧(L.length+M.length)*b≤140737488355328):appF b L M k=k (L++M):=by
 unfold appF
 exact if_pos h
theorem getN_some {γ:Type}{L:List D}{i:Nat}{x:D}{k:D→Option γ}(h:L[i]?=some x):getN L i k=k x:=by unfold getN;rw[h]
structure VV where
 k:Int
 i:Int
 nm:ByteArray
 fs:List D
 id:Int
 pt:List D
def VV.row (v:VV):D:=.agg [.int .u8 v.k,.int .i64 v.i,.str v.nm,.list true 6 v.fs,.int .i64 v.id,.list false 1 v.pt]
def zeroV:VV:=⟨0,0,ByteArray.empty,[],0,[]⟩
def un:D→VV
 | .agg [.int _ a0,.int _ a1,.str a2,.list _ _ a3,.int _ a4,.list _ _ a5]=>⟨a0,a1,a2,a3,a4,a5⟩
 | _=>zeroV
theorem un_row (v:VV):un v.row=v:=rfl
theorem row_inj {v w:VV}(h:v.row=w.row):v=w:=by rw[←un_row v,h,un_row]
structure VT (v:VV):Prop where
 k:(Lit.int .u8 v.k).wf=true
 i:(Lit.int .i64 v.i).wf=true
 nm:v.nm.size≤maxLen
 fs:ListS tab 49 v.fs
 id:(Lit.int .i64 v.id).wf=true
 pt:ListS tab 3 v.pt
inductive Sm:List D→Prop
 | mk {l:List D} (h:l.length≤1000) (hp:∀v:VV,v.row∈l→v.pt.length≤10000) (hf:∀v:VV,v.row∈l→Sm v.fs):Sm l
theorem Sm.len {l:List D}(h:Sm l):l.length≤1000:=by cases h;assumption
theorem Sm.pt {l:List D}(h:Sm l) {v:VV}(hv:v.row∈l):v.pt.length≤10000:=by
 cases h with
 | mk h hp hf=>exact hp v hv
theorem Sm.fs {l:List D}(h:Sm l) {v:VV}(hv:v.row∈l):Sm v.fs:=by
 cases h with
 | mk h hp hf=>exact hf v hv
structure VS (v:VV):Prop where
 t:VT v
 p:v.pt.length≤10000
 f:Sm v.fs
theorem rowV {l:List D}(h:ListS tab 49 l) {i:Nat}(hi:i<l.length):∃v:VV,l[i]?=some v.row∧v.row∈l∧VT v:=by
 obtain⟨x,hx,hm,hr⟩:=h.get hi
 obtain⟨a0,a1,a2,a3,a4,a5,rfl,w0,w1,w2,w3,w4,w5⟩:=rs49 hr
 exact⟨⟨a0,a1,a2,a3,a4,a5⟩,hx,hm,⟨w0,w1,w2,w3,w4,w5⟩⟩
theorem ds25 {γ:Type}(v:VV) (k:Int→Int→ByteArray→List D→Int→List D→Option γ):ds_t49 v.row k=k v.k v.i v.nm v.fs v.id v.pt:=rfl
theorem size_fs {l:List D}{v:VV}(h:v.row∈l):SizeOf.sizeOf v.fs<SizeOf.sizeOf l:=size_row (ag:=true) (sz:=6) h (by simp)
theorem intsS {l:List D}(h:ListS tab 3 l):∃q:List Int,l=q.map (D.int .i64)∧∀z∈q,(Lit.int .i64 z).wf=true:=by
 induction l with
 | nil=>exact⟨[],rfl,by simp⟩
 | cons x l ih=>
  obtain⟨q,rfl,hq⟩:=ih ⟨by have:=h.1;simp only[List.length_cons]at this;omega,fun y hy=>h.2 y (List.mem_cons_of_mem _ hy)⟩
  obtain⟨z,rfl,hz⟩:=rs3 (h.2 x (by simp))
  exact⟨z::q,rfl,fun y hy=>by rcases List.mem_cons.1 hy with rfl | hy;exact hz;exact hq y hy⟩
abbrev pD (q:List Int):List D:=q.map (D.int .i64)
theorem ev24 (l:List D):ListS tab 49 l→∀z:Int,-1≤z→z≤10000→∃r,Ev (fun n=>F92 n l z) r∧ -1≤r∧r≤z+0∧(0≤r→Sm l∧10*(l.length:Int)≤z - r):=by
 refine list_ind (P:=fun l=>ListS tab 49 l→∀z:Int,-1≤z→z≤10000→∃r,Ev (fun n=>F92 n l z) r∧ -1≤r∧r≤z+0∧(0≤r→Sm l∧10*(l.length:Int)≤z - r)) (fun l ih h=>?_) l
 have loop:∀i:Nat,i≤l.length→∀z:Int,-1≤z→z≤10000→∃r,Ev (fun n=>L92_1 n l z (i:Int)) r∧ -1≤r∧r≤z∧
   (0≤r→10*((l.length:Int) - i)≤z - r∧∀j:Nat,i≤j→∀v:VV,l[j]?=some v.row→v.pt.length≤10000∧Sm v.fs):=by
  refine down l.length ?_ ?_
  ·intro z h1 h2
   refine⟨z,.succ ?_,h1,Int.le_refl _,fun _=>⟨by omega,fun j hj v hv=>absurd ((List.getElem?_eq_some_iff.1 hv).1) (by omega)⟩⟩
   simp only[L92_1,lenF,Int.lt_irrefl,if_false]
   exact .succ (by simp only[L92_2,Bool.false_eq_true,if_false];exact .ret)
  ·intro i hi ihd z h1 h2
   by_cases hz:0≤z
   ·obtain⟨v,hx,hm,hv⟩:=rowV h hi
    have hw:=iw (z:=z - 10) (by omega) (by omega)
    have fail:∀z14,∃r,Ev (fun n=>L92_3 n l (i:Int) v.nm v.fs v.pt z14 true) r∧r= -1:=fun z14=>⟨-1,.succ (by simp only[L92_3,if_true];exact .ret),rfl⟩
    have hsz:v.nm.size=(v.nm.data.toList).length:=(Array.length_toList (xs:=v.nm.data)).symm
    by_cases c1:z - 10<0
    ·refine⟨-1,.succ ?_,by omega,by omega,by omega⟩
     simp only[L92_1,lenF,if_pos (ilt hi),if_pos hz]
     refine .succ ?_
     simp only[L92_2,if_true,getF_nat hx,ds25,letF,hw,if_pos c1]
     exact .succ (by simp only[L92_3,if_true];exact .ret)
    by_cases c2:z - 10<(v.nm.size:Int)
    ·refine⟨-1,.succ ?_,by omega,by omega,by omega⟩
     simp only[L92_1,lenF,if_pos (ilt hi),if_pos hz]
     refine .succ ?_
     simp only[L92_2,if_true,getF_nat hx,ds25,letF,hw,if_neg c1,szF,if_pos c2]
     exact .succ (by simp only[L92_3,if_true];exact .ret)
    have hw2:=iw (z:=z - 10 - (v.nm.size:Int)) (by omega) (by omega)
    by_cases c3:z - 10 - (v.nm.size:Int)<(v.pt.length:Int)
    ·refine⟨-1,.succ ?_,by omega,by omega,by omega⟩
     simp only[L92_1,lenF,if_pos (ilt hi),if_pos hz]
     refine .succ ?_
     simp only[L92_2,if_true,getF_nat hx,ds25,letF,hw,if_neg c1,szF,if_neg c2,lenF,hw2,if_pos c3]
     exact .succ (by simp only[L92_3,if_true];exact .ret)
    have hw3:=iw (z:=z - 10 - (v.nm.size:Int) - (v.pt.length:Int)) (by omega) (by omega)
    obtain⟨y,e1,e2,e3,e4⟩:=ih v.fs (size_fs hm) hv.fs (z - 10 - (v.nm.size:Int) - (v.pt.length:Int)) (by omega) (by omega)
    obtain⟨r,k1,k2,k3,k4⟩:=ihd y (by omega) (by omega)
    refine⟨r,.succ ?_,k2,by omega,fun hr=>⟨?_,?_⟩⟩
    ·simp only[L92_1,lenF,if_pos (ilt hi),if_pos hz]
     refine .succ ?_
     simp only[L92_2,if_true,getF_nat hx,ds25,letF,hw,if_neg c1,szF,if_neg c2,lenF,hw2,if_neg c3]
     refine .succ ?_
     simp only[L92_3,Bool.false_eq_true,if_false,szF,letF,hw2,lenF,hw3]
     refine Ev.bO1 e1 ?_
     simp only[letF,wrap_succ hi h.1]
     exact k1
    ·have:=(k4 hr).1
     have:=(e4 (by omega)).2
     omega
    ·intro j hj w hw'
     by_cases e:j=i
     ·subst e
      rw[hx]at hw'
      obtain rfl:=row_inj (Option.some.inj hw')
      exact⟨by omega,(e4 (by omega)).1⟩
     ·exact (k4 hr).2 j (by omega) w hw'
   ·refine⟨z,.succ ?_,h1,Int.le_refl _,by omega⟩
    simp only[L92_1,lenF,if_pos (ilt hi),if_neg hz]
    exact .succ (by simp only[L92_2,Bool.false_eq_true,if_false];exact .ret)
 intro z h1 h2
 obtain⟨r,k1,k2,k3,k4⟩:=loop 0 (Nat.zero_le _) z h1 h2
 refine⟨r,.succ (by simp only[F92];exact k1),k2,by omega,fun hr=>?_⟩
 obtain⟨q1,q2⟩:=k4 hr
 refine⟨.mk (by omega) (fun v hv=>?_) (fun v hv=>?_),by omega⟩
 ·obtain⟨j,hj⟩:=List.getElem?_of_mem hv
  exact (q2 j (Nat.zero_le _) v hj).1
 ·obtain⟨j,hj⟩:=List.getElem?_of_mem hv
  exact (q2 j (Nat.zero_le _) v hj).2
theorem VT.rowS {v:VV}(h:VT v):RowS tab 49 v.row:=mk49 h.k h.i h.nm h.fs h.id h.pt
theorem Ev.nilF {l:List D}{A B:Nat→Option (List D)}{r:List D}(hB:Ev B r) (hA:l=[]→Ev A r):Ev (fun n=>nilF l (A n) (B n)) r:=by
 by_cases e:l=[]
 ·obtain⟨N,h1⟩:=hA e
  obtain⟨M,h2⟩:=hB
  refine⟨N+M,fun n hn=>?_⟩
  show AM.nilF l (A n) (B n)=some r
  rw[nilF_eq (fun _=>by rw[h1 n (by omega),h2 n (by omega)])]
  exact h2 n (by omega)
 ·obtain⟨M,h2⟩:=hB
  refine⟨M,fun n hn=>?_⟩
  show AM.nilF l (A n) (B n)=some r
  rw[nilF_eq (fun h=>absurd h e)]
  exact h2 n hn
theorem ev26 {l:List D}(h:ListS tab 3 l) (hl:l.length≤10000):Ev (fun n=>F141 n l) l:=by
 unfold F141
 refine Ev.nilF (.succ ?_) (fun e=>?_)
 ·have hM:10000<maxLen:=by decide
  simp only[L141_1,Bool.false_eq_true,if_false]
  unfold appF
  rw[if_pos (by simp only[List.length_nil];omega)]
  exact .ret
 ·subst e
  exact .succ (by simp only[L141_1,if_true];exact .ret)
theorem ev10L (l:List D):ListS tab 49 l→Sm l→∀(z1 z2:Int) (s3:ByteArray) (z5:Int) (l6:List D),ListS tab 3 l6→l6.length≤10000→Ev (fun n=>F95 n z1 z2 s3 l z5 l6) (z1,z2,s3,l,z5,l6):=by
 refine list_ind (P:=fun l=>ListS tab 49 l→Sm l→∀(z1 z2:Int) (s3:ByteArray) (z5:Int) (l6:List D),ListS tab 3 l6→l6.length≤10000→Ev (fun n=>F95 n z1 z2 s3 l z5 l6) (z1,z2,s3,l,z5,l6)) (fun l ih h hs z1 z2 s3 z5 l6 h6 h6'=>?_) l
 have hM:10000<maxLen:=by decide
 have hl:=hs.len
 have loop:∀i:Nat,i≤l.length→Ev (fun n=>L95_1 n z1 z2 s3 l z5 l6 (l.length:Int) (l.take i) (i:Int)) (z1,z2,s3,l,z5,l6):=by
  refine down l.length ?_ ?_
  ·refine .succ ?_
   simp only[L95_1,Int.lt_irrefl,if_false]
   refine .succ ?_
   simp only[L95_2,Bool.false_eq_true,if_false,List.take_length]
   exact Ev.bO1 (ev26 h6 h6') .ret
  ·intro i hi ihd
   obtain⟨v,hx,hm,hv⟩:=rowV h hi
   have ht:l.take (i+1)=l.take i++[v.row]:=by rw[List.take_add_one,hx];rfl
   refine .succ ?_
   simp only[L95_1,if_pos (ilt hi)]
   refine .succ ?_
   simp only[L95_2,if_true,getF_nat hx,ds25]
   refine Ev.bO6 (ih v.fs (size_fs hm) hv.fs (hs.fs hm) v.k v.i v.nm v.id v.pt hv.pt (hs.pt hm)) ?_
   have hb:(l.take i).length+[v.row].length≤maxLen∧((l.take i).length+[v.row].length)*88≤140737488355328:=by simp only[List.length_take,List.length_cons,List.length_nil];omega
   have ha:∀k:List D→Option (Int×Int×ByteArray×List D×Int×List D),appF 88 (l.take i) [.agg [.int .u8 v.k,.int .i64 v.i,.str v.nm,.list true 6 v.fs,.int .i64 v.id,.list false 1 v.pt]] k=k (l.take i++[v.row]):=fun k=>appF_ok hb
   simp only[ha,letF,wrap_succ hi h.1]
   rw[ht]at ihd
   exact ihd
 refine .succ ?_
 simp only[F95,lenF]
 exact loop 0 (Nat.zero_le _)
theorem ev10 {v:VV}(h:VS v):Ev (fun n=>F95 n v.k v.i v.nm v.fs v.id v.pt) (v.k,v.i,v.nm,v.fs,v.id,v.pt):=ev10L v.fs h.t.fs h.f _ _ _ _ _ h.t.pt h.p
theorem ints_ev {q q':List Int}(h:q.length≤maxLen):Ev (fun n=>F98 n (pD q) (pD q')) (decide (q=q')):=by
 unfold F98
 simp only[lenF,List.length_map]
 by_cases e:q.length=q'.length
 ·simp only[if_pos (show (q.length:Int)=(q'.length:Int)by omega)]
  refine .succ ?_
  simp only[L98_1,Bool.false_eq_true,if_false]
  have loop:∀i:Nat,i≤q.length→Ev (fun n=>L98_2 n (pD q) (pD q') (i:Int)) (decide (q.drop i=q'.drop i)):=by
   refine down _ ?_ (fun i hi ih=>?_)
   ·refine .succ ?_
    simp only[L98_2,lenF,List.length_map,Int.lt_irrefl,if_false]
    rw[List.drop_length,e,List.drop_length,decide_eq_true rfl]
    exact .succ (by simp only[L98_3,Bool.false_eq_true,if_false];exact .ret)
   ·have hi':i<q'.length:=by omega
    have h1:(pD q)[i]?=some (.int .i64 q[i]):=by simp[hi]
    have h2:(pD q')[i]?=some (.int .i64 q'[i]):=by simp[hi']
    have d1:=List.drop_eq_getElem_cons hi
    have d2:=List.drop_eq_getElem_cons hi'
    refine .succ ?_
    simp only[L98_2,lenF,List.length_map,if_pos (ilt hi)]
    refine .succ ?_
    simp only[L98_3,if_true,getF_nat h1,getF_nat h2,ds_i64]
    by_cases c:q[i]=q'[i]
    ·simp only[if_pos c]
     refine .succ ?_
     simp only[L98_4,Bool.false_eq_true,if_false,letF,wrap_succ hi h]
     have:decide (q.drop i=q'.drop i)=decide (q.drop (i+1)=q'.drop (i+1)):=by
      rw[d1,d2,c];exact decide_eq_decide.2 ⟨fun h=>(List.cons.inj h).2,fun h=>by rw[h]⟩
     rw[this]
     exact ih
    ·simp only[if_neg c]
     rw[decide_eq_false (by rw[d1,d2];intro h;exact c (List.cons.inj h).1)]
     exact .succ (by simp only[L98_4,if_true];exact .ret)
  have:=loop 0 (Nat.zero_le _)
  simpa using this
 ·simp only[if_neg (show ¬(q.length:Int)=(q'.length:Int)by omega)]
  rw[decide_eq_false (fun h=>e (congrArg _ h))]
  exact .succ (by simp only[L98_1,if_true];exact .ret)
theorem pD_inj {q q':List Int}(h:pD q=pD q'):q=q':=by
 induction q generalizing q' with
 | nil=>cases q'<;>simp_all
 | cons a q ih=>
  cases q' with
  | nil=>simp at h
  | cons b q'=>
   simp only[List.map_cons,List.cons.injEq,D.int.injEq,true_and]at h
   rw[h.1,ih h.2]
open Classical in
theorem same_of (v w:VV) (hv:VT v) (hw:VT w) (hfs:Ev (fun n=>F48 n v.fs w.fs) (decide (v.fs=w.fs))):
  Ev (fun n=>F34 n v.k v.i v.nm v.fs v.id v.pt w.k w.i w.nm w.fs w.id w.pt) (decide (v=w)):=by
 have no:v≠w→Ev (fun _=>some false) (decide (v=w)):=fun h=>by rw[decide_eq_false h];exact .ret
 refine .succ ?_
 simp only[F34]
 by_cases c1:v.k=w.k
 rotate_left
 ·simp only[if_neg c1];exact no (fun h=>c1 (by rw[h]))
 by_cases c2:v.i=w.i
 rotate_left
 ·simp only[if_pos c1,if_neg c2];exact no (fun h=>c2 (by rw[h]))
 by_cases c3:v.nm=w.nm
 rotate_left
 ·simp only[if_pos c1,if_pos c2,if_neg c3];exact no (fun h=>c3 (by rw[h]))
 by_cases c4:v.id=w.id
 rotate_left
 ·simp only[if_pos c1,if_pos c2,if_pos c3,if_neg c4];exact no (fun h=>c4 (by rw[h]))
 simp only[if_pos c1,if_pos c2,if_pos c3,if_pos c4]
 obtain⟨q,e1,_⟩:=intsS hv.pt
 obtain⟨q',e2,_⟩:=intsS hw.pt
 have hq:q.length≤maxLen:=by have:=hv.pt.1;rw[e1]at this;simpa using this
 rw[e1,e2]
 refine Ev.bO1 (ints_ev hq) ?_
 by_cases c5:q=q'
 rotate_left
 ·simp only[decide_eq_false c5,Bool.false_eq_true,if_false]
  exact no (fun h=>c5 (pD_inj (e1.symm.trans ((congrArg VV.pt h).trans e2))))
 simp only[decide_eq_true c5,if_true]
 refine Ev.bO1 hfs ?_
 have:decide (v.fs=w.fs)=decide (v=w):=by
  refine decide_eq_decide.2 ⟨fun h=>?_,fun h=>by rw[h]⟩
  have e3:v.pt=w.pt:=by rw[e1,e2,c5]
  obtain⟨a,b,c,d,e,f⟩:=v
  obtain⟨a',b',c',d',e',f'⟩:=w
  simp only[VV.mk.injEq]
  exact⟨c1,c2,c3,h,c4,e3⟩
 rw[this]
 exact .ret
open Classical in
theorem sameL (l:List D):∀m,ListS tab 49 l→ListS tab 49 m→Ev (fun n=>F48 n l m) (decide (l=m)):=by
 refine list_ind (P:=fun l=>∀m,ListS tab 49 l→ListS tab 49 m→Ev (fun n=>F48 n l m) (decide (l=m))) (fun l ih m h hm=>?_) l
 refine .succ ?_
 simp only[F48,lenF]
 by_cases e:l.length=m.length
 rotate_left
 ·simp only[if_neg (show ¬(l.length:Int)=(m.length:Int)by omega)]
  rw[decide_eq_false (fun h=>e (congrArg _ h))]
  exact .succ (by simp only[L48_1,if_true];exact .ret)
 simp only[if_pos (show (l.length:Int)=(m.length:Int)by omega)]
 refine .succ ?_
 simp only[L48_1,Bool.false_eq_true,if_false]
 have loop:∀i:Nat,i≤l.length→Ev (fun n=>L48_2 n l m (i:Int)) (decide (l.drop i=m.drop i)):=by
  refine down _ ?_ (fun i hi ihd=>?_)
  ·refine .succ ?_
   simp only[L48_2,lenF,Int.lt_irrefl,if_false]
   rw[List.drop_length,e,List.drop_length,decide_eq_true rfl]
   exact .succ (by simp only[L48_3,Bool.false_eq_true,if_false];exact .ret)
  ·have hi':i<m.length:=by omega
   obtain⟨v,hx,hvm,hv⟩:=rowV h hi
   obtain⟨w,hy,hwm,hw⟩:=rowV hm hi'
   have d1:l.drop i=v.row::l.drop (i+1):=by
    rw[List.drop_eq_getElem_cons hi];congr 1
    rw[List.getElem?_eq_getElem hi]at hx;exact Option.some.inj hx
   have d2:m.drop i=w.row::m.drop (i+1):=by
    rw[List.drop_eq_getElem_cons hi'];congr 1
    rw[List.getElem?_eq_getElem hi']at hy;exact Option.some.inj hy
   refine .succ ?_
   simp only[L48_2,lenF,if_pos (ilt hi)]
   refine .succ ?_
   simp only[L48_3,if_true,getF_nat hx,getF_nat hy,ds25]
   refine Ev.bO1 (same_of v w hv hw (ih v.fs (size_fs hvm) w.fs hv.fs hw.fs)) ?_
   by_cases c:v=w
   ·simp only[decide_eq_true c,letB,Bool.not_true,Bool.false_eq_true,if_false,letF,wrap_succ hi h.1]
    have:decide (l.drop i=m.drop i)=decide (l.drop (i+1)=m.drop (i+1)):=by
     rw[d1,d2,c];exact decide_eq_decide.2 ⟨fun h=>(List.cons.inj h).2,fun h=>by rw[h]⟩
    rw[this]
    exact ihd
   ·simp only[decide_eq_false c,letB,Bool.not_false,if_true]
    rw[decide_eq_false (by rw[d1,d2];intro h;exact c (row_inj (List.cons.inj h).1))]
    exact .ret
 have:=loop 0 (Nat.zero_le _)
 simpa using this
open Classical in
theorem ev11 {v w:VV}(hv:VT v) (hw:VT w):Ev (fun n=>F34 n v.k v.i v.nm v.fs v.id v.pt w.k w.i w.nm w.fs w.id w.pt) (decide (v=w)):=
 same_of v w hv hw (sameL v.fs w.fs hv.fs hw.fs)
end Go.Proofs.Ytiiojajgajnhpaa
end
set_option linter.unusedVariables false
noncomputable section
namespace Go.Proofs.Ytiiojajgajnhpaa
open Go Go.AM
def F99 (n:Nat) (z1:Int) (pm2:List PRow):Option ((((List PRow)×Nat×Int×Int×Int×List D) ⊕ ((List PRow)))):=
 (findPF z1 pm2 (fun u3 l4 l5=>dl_w0 l4 fun z7 z8 z9=>some (.inl (pm2,u3,z7,z8,z9,l5))) (some (.inr pm2)))
theorem T99 (n:Nat):∀⦃z1:Int⦄ ⦃pm2:List PRow⦄ ⦃r:(((List PRow)×Nat×Int×Int×Int×List D) ⊕ ((List PRow)))⦄,F99 n z1 pm2=some r→∀Q:AV→List AObj→List AObj→Prop,(match r with | .inl (r1,r2,r3,r4,r5,r6)=>Q (.v (.c (.ptr (.loc 0) 0))) [.cells [.ow (.ext 1)],.pmap 3 6 8 r1 (some (r2,.loc 0))] [.arr [.d (.int .i64 r3),.d (.int .i64 r4),.d (.int .i64 r5)] true 6 r6 []] | .inr r1=>Q (.v (.c (.nilp))) [.cells [.ow (.ext 1)],.pmap 3 6 8 r1 none] [])→
    TripK Try.prog inv 99 [.c (.ptr (.ext 0) 0),.d (.int .i64 z1)] [.cells [.ow (.ext 1)],.pmap 3 6 8 pm2 none] Q:=by
 intro z1 pm2 r h Q hQ
 unfold F99 at h
 refine TripK.of tab_ok tab_one fol Try.func99 rfl (by kernel_rfl) rfl rfl rfl (fun M hM hI=>?_)
 try cbv
 refine seq_go ?_
 try cbv
 refine seq_go ?_
 try cbv
 refine seq_go ?_
 try cbv
 refine seq_go ?_
 try cbv
 replace h:=findPF_inv h
 rcases h with⟨u3,key6,l4,l5,hz,h⟩ | ⟨hz,h⟩
 ·replace h:=dl_w0_inv h
  obtain⟨z7,z8,z9,rfl,h⟩:=h
  refine⟨some (u3,key6,_,l5),(M.lock_iff _).2 hz,?_⟩
  clear hz
  try cbv
  obtain rfl:=Option.some.inj h
  refine finQ_go hQ ?_
  try cbv
  exact⟨[.loc 256],rfl,rfl,⟨rfl,⟨rfl,trivial⟩⟩,⟨rfl,trivial⟩,trivial⟩
 refine⟨none,(M.lock_iff _).2 hz,?_⟩
 clear hz
 try cbv
 obtain rfl:=Option.some.inj h
 refine finQ_go hQ ?_
 try cbv
 exact⟨[],rfl,rfl,⟨rfl,⟨rfl,trivial⟩⟩,trivial,trivial⟩
def L37_1:Nat→Int→Int→Bool→(List PRow)→Option ((List PRow))
 | 0,_,_,_,_=>none
 | n+1,z1,z2,b14,pm15=>
  (if b14=true then some pm15 else putPF z1 [.int .i64 z2,.int .i64 0,.int .i64 0] [.agg [.int .u8 0,.int .i64 0,.str ByteArray.empty,.list true 6 [],.int .i64 0,.list false 1 []],.agg [.int .u8 0,.int .i64 0,.str ByteArray.empty,.list true 6 [],.int .i64 0,.list false 1 []],.agg [.int .u8 0,.int .i64 0,.str ByteArray.empty,.list true 6 [],.int .i64 0,.list false 1 []],.agg [.int .u8 0,.int .i64 0,.str ByteArray.empty,.list true 6 [],.int .i64 0,.list false 1 []],.agg [.int .u8 0,.int .i64 0,.str ByteArray.empty,.list true 6 [],.int .i64 0,.list false 1 []],.agg [.int .u8 0,.int .i64 0,.str ByteArray.empty,.list true 6 [],.int .i64 0,.list false 1 []],.agg [.int .u8 0,.int .i64 0,.str ByteArray.empty,.list true 6 [],.int .i64 0,.list false 1 []],.agg [.int .u8 0,.int .i64 0,.str ByteArray.empty,.list true 6 [],.int .i64 0,.list false 1 []]] pm15 fun pm16=>some pm16)
def F37 (n:Nat) (z1:Int) (z2:Int) (pm3:List PRow):Option ((List PRow)):=
 bS (F99 n z1 pm3) (fun p11=>bO6 (some p11) fun pm4 u5 z6 z7 z8 l9=>setPF pm4 u5 [.int .i64 z6,.int .i64 z7,.int .i64 z8] l9 fun pm13=>L37_1 n z1 z2 true pm13) (fun pm10=>(if z2<(1:Int)then L37_1 n z1 z2 true pm10 else (if (8:Int)<z2 then L37_1 n z1 z2 true pm10 else L37_1 n z1 z2 false pm10)))
theorem T37 (n:Nat):∀⦃z1:Int⦄ ⦃z2:Int⦄ ⦃pm3:List PRow⦄ ⦃r1:List PRow⦄,F37 n z1 z2 pm3=some r1→
    Trip Try.prog inv 37 [.c (.ptr (.ext 0) 0),.d (.int .i64 z1),.d (.int .i64 z2)] [.cells [.ow (.ext 1)],.pmap 3 6 8 pm3 none] (.t []) [.cells [.ow (.ext 1)],.pmap 3 6 8 r1 none] []:=by
 intro z1 z2 pm3 r1 h
 unfold F37 at h
 refine Trip.of tab_ok tab_one fol Try.func37 rfl (by kernel_rfl) rfl rfl rfl (fun M hM hI=>?_)
 try cbv
 refine seq_go ?_
 try cbv
 refine seq_join (T:=Nat×Bool×(List PRow)) (fun t=>⟨[(0,.v (.c (.ptr (.ext 0) 0))),(1,.v (.d (.int .i64 z1))),(2,.v (.d (.int .i64 z2))),(28,.v (.d (.bool t.2.1)))],[(.ext 0,.cells [.ow (.ext 1)]),(.ext 1,.pmap 3 6 8 t.2.2 none)],736⟩) (fun t=>t.1≤n∧L37_1 t.1 z1 z2 t.2.1 t.2.2=some r1) ?_ ?_
 rotate_left
 ·clear h
  rintro⟨m1,b14,pm15⟩ ⟨hm1,h⟩
  replace hm1:m1≤n:=hm1
  obtain _ | m1:=m1
  ·replace h:L37_1 0 z1 z2 b14 pm15=some r1:=h
   rw[L37_1]at h
   cases h
  replace h:L37_1 (m1+1) z1 z2 b14 pm15=some r1:=h
  rw[L37_1]at h
  try cbv
  cases b14
  ·replace h:=ite_f Bool.false_ne_true h
   try cbv
   replace h:=putPF_inv h
   obtain⟨pm16,hn,hz,h⟩:=h
   refine⟨(M.lock_iff _).2 hn,pm16,hz,?_⟩
   clear hn hz
   try cbv
   obtain rfl:=Option.some.inj h
   refine fin_go ?_
   try cbv
   exact⟨[],rfl,rfl,⟨rfl,⟨rfl,trivial⟩⟩,trivial,trivial⟩
  replace h:=ite_t rfl h
  try cbv
  obtain rfl:=Option.some.inj h
  refine fin_go ?_
  try cbv
  exact⟨[],rfl,rfl,⟨rfl,⟨rfl,trivial⟩⟩,trivial,trivial⟩
 try cbv
 replace h:=bS_inv h
 rcases h with⟨p11,hr,h⟩ | ⟨pm10,hr,h⟩
 ·replace h:=bO6_inv h
  obtain⟨pm4,u5,z6,z7,z8,l9,hp,h⟩:=h
  obtain rfl:=Option.some.inj hp
  clear hp
  refine call_go rfl rfl ?_
  try cbv
  refine call_with hM hI [.ext 0,.ext 1] (T99 _ hr (fun r p n=>r= .v (.c (.ptr (.loc 0) 0))∧p=[.cells [.ow (.ext 1)],.pmap 3 6 8 pm4 (some (u5,.loc 0))]∧n=[.arr [.d (.int .i64 z6),.d (.int .i64 z7),.d (.int .i64 z8)] true 6 l9 []]) ⟨rfl,rfl,rfl⟩:Trip _ _ _ _ _ (.v (.c (.ptr (.loc 0) 0))) [.cells [.ow (.ext 1)],.pmap 3 6 8 pm4 (some (u5,.loc 0))] [.arr [.d (.int .i64 z6),.d (.int .i64 z7),.d (.int .i64 z8)] true 6 l9 []]) rfl (by simp) ⟨rfl,⟨rfl,trivial⟩⟩ ⟨trivial,⟨trivial,trivial⟩⟩ (by simp) ?_
  clear hr
  try cbv
  replace h:=setPF_inv h
  obtain⟨pm13,hpm13,h⟩:=h
  refine join_nextG (n,(true,pm13)) [.closeP (.ext 1)] [] [0,1,2,28] [.ext 0,.ext 1] 736 ⟨by omega,h⟩ ?_
  try cbv
  refine⟨pm13,hpm13,?_⟩
  clear hpm13
  try cbv
  first | done | exact rfl | cbv
 refine call_go rfl rfl ?_
 try cbv
 refine call_with hM hI [.ext 0,.ext 1] (T99 _ hr (fun r p n=>r= .v (.c (.nilp))∧p=[.cells [.ow (.ext 1)],.pmap 3 6 8 pm10 none]∧n=[]) ⟨rfl,rfl,rfl⟩:Trip _ _ _ _ _ (.v (.c (.nilp))) [.cells [.ow (.ext 1)],.pmap 3 6 8 pm10 none] []) rfl (by simp) ⟨rfl,⟨rfl,trivial⟩⟩ ⟨trivial,⟨trivial,trivial⟩⟩ (by simp) ?_
 clear hr
 try cbv
 refine splitL (fun e=>?_) (fun e=>?_)
 ·replace h:=ite_t e h
  clear e
  try cbv
  exact join_next (n,(true,pm10)) [0,1,2,28] [.ext 0,.ext 1] 736 ⟨by omega,h⟩ (by cbv)
 replace h:=ite_f (Int.not_lt.2 e) h
 clear e
 try cbv
 refine splitL (fun e=>?_) (fun e=>?_)
 ·replace h:=ite_t e h
  clear e
  try cbv
  exact join_next (n,(true,pm10)) [0,1,2,28] [.ext 0,.ext 1] 736 ⟨by omega,h⟩ (by cbv)
 replace h:=ite_f (Int.not_lt.2 e) h
 clear e
 try cbv
 exact join_next (n,(false,pm10)) [0,1,2,28] [.ext 0,.ext 1] 736 ⟨by omega,h⟩ (by cbv)
def F100 (n:Nat) (z1:Int) (z2:Int) (z3:Int) (l4:List D):Option (Int×Int×ByteArray×List D×Int×List D×Int×Int×Int×List D):=
 needF (0≤z2∧z2<8) (getN l4 (z2.toNat) fun x5=>ds_t49 x5 fun z6 z7 s8 l9 z10 l11=>needF (0≤z2∧z2<8) (setNF l4 (z2.toNat) (.agg [.int .u8 0,.int .i64 0,.str ByteArray.empty,.list true 6 [],.int .i64 0,.list false 1 []]) fun l12=>letF (IntKind.wrap .i64 (z2+1)) fun z13=>needF ((8:Int)≠0) (letF (Int.tmod z13 8) fun z14=>letF (IntKind.wrap .i64 (z3 - 1)) fun z15=>some (z6,z7,s8,l9,z10,l11,z1,z14,z15,l12))))
theorem T100 (n:Nat):∀⦃z1:Int⦄ ⦃z2:Int⦄ ⦃z3:Int⦄ ⦃l4:List D⦄ ⦃r1:Int⦄ ⦃r2:Int⦄ ⦃r3:ByteArray⦄ ⦃r4:List D⦄ ⦃r5:Int⦄ ⦃r6:List D⦄ ⦃r7:Int⦄ ⦃r8:Int⦄ ⦃r9:Int⦄ ⦃r10:List D⦄,F100 n z1 z2 z3 l4=some (r1,r2,r3,r4,r5,r6,r7,r8,r9,r10)→
    Trip Try.prog inv 100 [.c (.ptr (.ext 0) 0)] [.arr [.d (.int .i64 z1),.d (.int .i64 z2),.d (.int .i64 z3)] true 6 l4 []] (.v (.d (.agg [.int .u8 r1,.int .i64 r2,.str r3,.list true 6 r4,.int .i64 r5,.list false 1 r6]))) [.arr [.d (.int .i64 r7),.d (.int .i64 r8),.d (.int .i64 r9)] true 6 r10 []] []:=by
 intro z1 z2 z3 l4 r1 r2 r3 r4 r5 r6 r7 r8 r9 r10 h
 unfold F100 at h
 refine Trip.of tab_ok tab_one fol Try.func100 rfl (by kernel_rfl) rfl rfl rfl (fun M hM hI=>?_)
 try cbv
 refine seq_go ?_
 try cbv
 refine seq_go ?_
 try cbv
 replace h:=needF_inv h
 obtain⟨hn,h⟩:=h
 refine⟨hn.1,hn.2,false,?_⟩
 clear hn
 try cbv
 replace h:=getN_inv h
 obtain⟨x5,hx,h⟩:=h
 replace h:=ds_t49_inv h
 obtain⟨z6,z7,s8,l9,z10,l11,rfl,h⟩:=h
 refine⟨_,hx,?_⟩
 clear hx
 try cbv
 refine drawn ?_ ?_
 ·show _=true
  kernel_rfl
 try cbv
 refine seq_go ?_
 try cbv
 replace h:=needF_inv h
 obtain⟨hn,h⟩:=h
 refine⟨hn.1,hn.2,false,?_⟩
 clear hn
 try cbv
 replace h:=setNF_inv h
 obtain⟨l12,hb,hz,h⟩:=h
 refine⟨(M.lock_iff _).2 hb,l12,hz,?_⟩
 clear hb hz
 try cbv
 refine drawn ?_ ?_
 ·show _=true
  kernel_rfl
 try cbv
 refine seq_go ?_
 try cbv
 replace h:=letF_inv h
 obtain⟨z13,hz,h⟩:=h
 refine⟨z13,hz,?_⟩
 clear hz
 try cbv
 replace h:=needF_inv h
 obtain⟨hn,h⟩:=h
 replace h:=letF_inv h
 obtain⟨z14,hz,h⟩:=h
 refine⟨z14,hn,hz,?_⟩
 clear hn hz
 try cbv
 refine seq_go ?_
 try cbv
 replace h:=letF_inv h
 obtain⟨z15,hz,h⟩:=h
 refine⟨z15,hz,?_⟩
 clear hz
 try cbv
 refine seq_go ?_
 try cbv
 obtain⟨rfl,rfl,rfl,rfl,rfl,rfl,rfl,rfl,rfl,rfl⟩:=inj10 h
 refine fin_go ?_
 try cbv
 exact⟨[],rfl,rfl,⟨rfl,trivial⟩,trivial,trivial⟩
def F41 (n:Nat) (z1:Int) (pm2:List PRow):Option (Bool×(List PRow)):=
 bS (F99 n z1 pm2) (fun p10=>bO6 (some p10) fun pm3 u4 z5 z6 z7 l8=>(if z7=(0:Int)then setPF pm3 u4 [.int .i64 z5,.int .i64 z6,.int .i64 z7] l8 fun pm13=>some (true,pm13)else setPF pm3 u4 [.int .i64 z5,.int .i64 z6,.int .i64 z7] l8 fun pm14=>some (false,pm14))) (fun pm9=>some (true,pm9))
theorem T41 (n:Nat):∀⦃z1:Int⦄ ⦃pm2:List PRow⦄ ⦃r1:Bool⦄ ⦃r2:List PRow⦄,F41 n z1 pm2=some (r1,r2)→
    Trip Try.prog inv 41 [.c (.ptr (.ext 0) 0),.d (.int .i64 z1)] [.cells [.ow (.ext 1)],.pmap 3 6 8 pm2 none] (.v (.d (.bool r1))) [.cells [.ow (.ext 1)],.pmap 3 6 8 r2 none] []:=by
 intro z1 pm2 r1 r2 h
 unfold F41 at h
 refine Trip.of tab_ok tab_one fol Try.func41 rfl (by kernel_rfl) rfl rfl rfl (fun M hM hI=>?_)
 try cbv
 refine seq_go ?_
 try cbv
 refine seq_go ?_
 try cbv
 replace h:=bS_inv h
 rcases h with⟨p10,hr,h⟩ | ⟨pm9,hr,h⟩
 rotate_left
 ·refine call_go rfl rfl ?_
  try cbv
  refine call_with hM hI [.ext 0,.ext 1] (T99 _ hr (fun r p n=>r= .v (.c (.nilp))∧p=[.cells [.ow (.ext 1)],.pmap 3 6 8 pm9 none]∧n=[]) ⟨rfl,rfl,rfl⟩:Trip _ _ _ _ _ (.v (.c (.nilp))) [.cells [.ow (.ext 1)],.pmap 3 6 8 pm9 none] []) rfl (by simp) ⟨rfl,⟨rfl,trivial⟩⟩ ⟨trivial,⟨trivial,trivial⟩⟩ (by simp) ?_
  clear hr
  try cbv
  refine seq_go ?_
  try cbv
  obtain⟨rfl,rfl⟩:=inj2 h
  refine fin_go ?_
  try cbv
  exact⟨[],rfl,rfl,⟨rfl,⟨rfl,trivial⟩⟩,trivial,trivial⟩
 replace h:=bO6_inv h
 obtain⟨pm3,u4,z5,z6,z7,l8,hp,h⟩:=h
 obtain rfl:=Option.some.inj hp
 clear hp
 refine call_go rfl rfl ?_
 try cbv
 refine call_with hM hI [.ext 0,.ext 1] (T99 _ hr (fun r p n=>r= .v (.c (.ptr (.loc 0) 0))∧p=[.cells [.ow (.ext 1)],.pmap 3 6 8 pm3 (some (u4,.loc 0))]∧n=[.arr [.d (.int .i64 z5),.d (.int .i64 z6),.d (.int .i64 z7)] true 6 l8 []]) ⟨rfl,rfl,rfl⟩:Trip _ _ _ _ _ (.v (.c (.ptr (.loc 0) 0))) [.cells [.ow (.ext 1)],.pmap 3 6 8 pm3 (some (u4,.loc 0))] [.arr [.d (.int .i64 z5),.d (.int .i64 z6),.d (.int .i64 z7)] true 6 l8 []]) rfl (by simp) ⟨rfl,⟨rfl,trivial⟩⟩ ⟨trivial,⟨trivial,trivial⟩⟩ (by simp) ?_
 clear hr
 try cbv
 refine seq_go ?_
 try cbv
 refine splitI (fun e=>?_) (fun e=>?_)
 ·replace h:=ite_t e h
  clear e
  try cbv
  replace h:=setPF_inv h
  obtain⟨pm13,hpm13,h⟩:=h
  obtain⟨rfl,rfl⟩:=inj2 h
  refine⟨_,_,_,⟨rfl,rfl,rfl⟩,[.closeP (.ext 1)],?_⟩
  try cbv
  refine⟨pm13,hpm13,?_⟩
  clear hpm13
  try cbv
  exact⟨[],rfl,rfl,⟨rfl,⟨rfl,trivial⟩⟩,trivial,trivial⟩
 replace h:=ite_f e h
 clear e
 try cbv
 replace h:=setPF_inv h
 obtain⟨pm14,hpm14,h⟩:=h
 obtain⟨rfl,rfl⟩:=inj2 h
 refine⟨_,_,_,⟨rfl,rfl,rfl⟩,[.closeP (.ext 1)],?_⟩
 try cbv
 refine⟨pm14,hpm14,?_⟩
 clear hpm14
 try cbv
 exact⟨[],rfl,rfl,⟨rfl,⟨rfl,trivial⟩⟩,trivial,trivial⟩
def F38 (n:Nat) (z1:Int) (pm2:List PRow):Option (Int×Int×ByteArray×List D×Int×List D×Bool×(List PRow)):=
 bO2 (F41 n z1 pm2) fun b3 pm4=>(if b3=true then some ((0:Int),(0:Int),ByteArray.empty,([]:List D),(0:Int),([]:List D),false,pm4)else bS (F99 n z1 pm4) (fun p22=>bO6 (some p22) fun pm5 u6 z7 z8 z9 l10=>bO10 (F100 n z7 z8 z9 l10) fun z11 z12 s13 l14 z15 l16 z17 z18 z19 l20=>setPF pm5 u6 [.int .i64 z17,.int .i64 z18,.int .i64 z19] l20 fun pm24=>some (z11,z12,s13,l14,z15,l16,true,pm24)) (fun pm21=>none))
theorem T38 (n:Nat):∀⦃z1:Int⦄ ⦃pm2:List PRow⦄ ⦃r1:Int⦄ ⦃r2:Int⦄ ⦃r3:ByteArray⦄ ⦃r4:List D⦄ ⦃r5:Int⦄ ⦃r6:List D⦄ ⦃r7:Bool⦄ ⦃r8:List PRow⦄,F38 n z1 pm2=some (r1,r2,r3,r4,r5,r6,r7,r8)→
    Trip Try.prog inv 38 [.c (.ptr (.ext 0) 0),.d (.int .i64 z1)] [.cells [.ow (.ext 1)],.pmap 3 6 8 pm2 none] (.t [.d (.agg [.int .u8 r1,.int .i64 r2,.str r3,.list true 6 r4,.int .i64 r5,.list false 1 r6]),.d (.bool r7)]) [.cells [.ow (.ext 1)],.pmap 3 6 8 r8 none] []:=by
 intro z1 pm2 r1 r2 r3 r4 r5 r6 r7 r8 h
 unfold F38 at h
 refine Trip.of tab_ok tab_one fol Try.func38 rfl (by kernel_rfl) rfl rfl rfl (fun M hM hI=>?_)
 try cbv
 refine seq_go ?_
 try cbv
 refine seq_go ?_
 try cbv
 refine seq_go ?_
 try cbv
 replace h:=bO2_inv h
 obtain⟨b3,pm4,hr,h⟩:=h
 refine call_go rfl rfl ?_
 try cbv
 refine call_with hM hI [.ext 0,.ext 1] (T41 _ hr) rfl (by simp) ⟨rfl,⟨rfl,trivial⟩⟩ ⟨trivial,⟨trivial,trivial⟩⟩ (by simp) ?_
 clear hr
 try cbv
 cases b3
 rotate_left
 ·replace h:=ite_t rfl h
  try cbv
  refine seq_go ?_
  try cbv
  obtain⟨rfl,rfl,rfl,rfl,rfl,rfl,rfl,rfl⟩:=inj8 h
  refine fin_go ?_
  try cbv
  exact⟨[],rfl,rfl,⟨rfl,⟨rfl,trivial⟩⟩,trivial,trivial⟩
 replace h:=ite_f Bool.false_ne_true h
 try cbv
 refine seq_go ?_
 try cbv
 replace h:=bS_inv h
 rcases h with⟨p22,hr,h⟩ | ⟨pm21,hr,h⟩
 rotate_left
 ·refine call_go rfl rfl ?_
  try cbv
  refine call_with hM hI [.ext 0,.ext 1] (T99 _ hr (fun r p n=>r= .v (.c (.nilp))∧p=[.cells [.ow (.ext 1)],.pmap 3 6 8 pm21 none]∧n=[]) ⟨rfl,rfl,rfl⟩:Trip _ _ _ _ _ (.v (.c (.nilp))) [.cells [.ow (.ext 1)],.pmap 3 6 8 pm21 none] []) rfl (by simp) ⟨rfl,⟨rfl,trivial⟩⟩ ⟨trivial,⟨trivial,trivial⟩⟩ (by simp) ?_
  clear hr
  try cbv
  cases h
 replace h:=bO6_inv h
 obtain⟨pm5,u6,z7,z8,z9,l10,hp,h⟩:=h
 obtain rfl:=Option.some.inj hp
 clear hp
 refine call_go rfl rfl ?_
 try cbv
 refine call_with hM hI [.ext 0,.ext 1] (T99 _ hr (fun r p n=>r= .v (.c (.ptr (.loc 0) 0))∧p=[.cells [.ow (.ext 1)],.pmap 3 6 8 pm5 (some (u6,.loc 0))]∧n=[.arr [.d (.int .i64 z7),.d (.int .i64 z8),.d (.int .i64 z9)] true 6 l10 []]) ⟨rfl,rfl,rfl⟩:Trip _ _ _ _ _ (.v (.c (.ptr (.loc 0) 0))) [.cells [.ow (.ext 1)],.pmap 3 6 8 pm5 (some (u6,.loc 0))] [.arr [.d (.int .i64 z7),.d (.int .i64 z8),.d (.int .i64 z9)] true 6 l10 []]) rfl (by simp) ⟨rfl,⟨rfl,trivial⟩⟩ ⟨trivial,⟨trivial,trivial⟩⟩ (by simp) ?_
 clear hr
 try cbv
 replace h:=bO10_inv h
 obtain⟨z11,z12,s13,l14,z15,l16,z17,z18,z19,l20,hr,h⟩:=h
 refine call_go rfl rfl ?_
 try cbv
 refine call_with hM hI [.loc 224] (T100 _ hr) rfl (by simp) ⟨rfl,trivial⟩ ⟨trivial,trivial⟩ (by simp) ?_
 clear hr
 try cbv
 replace h:=setPF_inv h
 obtain⟨pm24,hpm24,h⟩:=h
 obtain⟨rfl,rfl,rfl,rfl,rfl,rfl,rfl,rfl⟩:=inj8 h
 refine⟨_,_,_,⟨rfl,rfl,rfl⟩,[.closeP (.ext 1)],?_⟩
 try cbv
 refine⟨pm24,hpm24,?_⟩
 clear hpm24
 try cbv
 exact⟨[],rfl,rfl,⟨rfl,⟨rfl,trivial⟩⟩,trivial,trivial⟩
def F40 (n:Nat) (z1:Int) (pm2:List PRow):Option (Bool×(List PRow)):=
 bS (F99 n z1 pm2) (fun p10=>bO6 (some p10) fun pm3 u4 z5 z6 z7 l8=>(if z7=z5 then setPF pm3 u4 [.int .i64 z5,.int .i64 z6,.int .i64 z7] l8 fun pm13=>some (true,pm13)else setPF pm3 u4 [.int .i64 z5,.int .i64 z6,.int .i64 z7] l8 fun pm14=>some (false,pm14))) (fun pm9=>some (true,pm9))
theorem T40 (n:Nat):∀⦃z1:Int⦄ ⦃pm2:List PRow⦄ ⦃r1:Bool⦄ ⦃r2:List PRow⦄,F40 n z1 pm2=some (r1,r2)→
    Trip Try.prog inv 40 [.c (.ptr (.ext 0) 0),.d (.int .i64 z1)] [.cells [.ow (.ext 1)],.pmap 3 6 8 pm2 none] (.v (.d (.bool r1))) [.cells [.ow (.ext 1)],.pmap 3 6 8 r2 none] []:=by
 intro z1 pm2 r1 r2 h
 unfold F40 at h
 refine Trip.of tab_ok tab_one fol Try.func40 rfl (by kernel_rfl) rfl rfl rfl (fun M hM hI=>?_)
 try cbv
 refine seq_go ?_
 try cbv
 refine seq_go ?_
 try cbv
 replace h:=bS_inv h
 rcases h with⟨p10,hr,h⟩ | ⟨pm9,hr,h⟩
 rotate_left
 ·refine call_go rfl rfl ?_
  try cbv
  refine call_with hM hI [.ext 0,.ext 1] (T99 _ hr (fun r p n=>r= .v (.c (.nilp))∧p=[.cells [.ow (.ext 1)],.pmap 3 6 8 pm9 none]∧n=[]) ⟨rfl,rfl,rfl⟩:Trip _ _ _ _ _ (.v (.c (.nilp))) [.cells [.ow (.ext 1)],.pmap 3 6 8 pm9 none] []) rfl (by simp) ⟨rfl,⟨rfl,trivial⟩⟩ ⟨trivial,⟨trivial,trivial⟩⟩ (by simp) ?_
  clear hr
  try cbv
  refine seq_go ?_
  try cbv
  refine drawn ?_ ?_
  ·show _=true
   kernel_rfl
  try cbv
  obtain⟨rfl,rfl⟩:=inj2 h
  refine fin_go ?_
  try cbv
  exact⟨[],rfl,rfl,⟨rfl,⟨rfl,trivial⟩⟩,trivial,trivial⟩
 replace h:=bO6_inv h
 obtain⟨pm3,u4,z5,z6,z7,l8,hp,h⟩:=h
 obtain rfl:=Option.some.inj hp
 clear hp
 refine call_go rfl rfl ?_
 try cbv
 refine call_with hM hI [.ext 0,.ext 1] (T99 _ hr (fun r p n=>r= .v (.c (.ptr (.loc 0) 0))∧p=[.cells [.ow (.ext 1)],.pmap 3 6 8 pm3 (some (u4,.loc 0))]∧n=[.arr [.d (.int .i64 z5),.d (.int .i64 z6),.d (.int .i64 z7)] true 6 l8 []]) ⟨rfl,rfl,rfl⟩:Trip _ _ _ _ _ (.v (.c (.ptr (.loc 0) 0))) [.cells [.ow (.ext 1)],.pmap 3 6 8 pm3 (some (u4,.loc 0))] [.arr [.d (.int .i64 z5),.d (.int .i64 z6),.d (.int .i64 z7)] true 6 l8 []]) rfl (by simp) ⟨rfl,⟨rfl,trivial⟩⟩ ⟨trivial,⟨trivial,trivial⟩⟩ (by simp) ?_
 clear hr
 try cbv
 refine seq_go ?_
 try cbv
 refine splitI (fun e=>?_) (fun e=>?_)
 ·replace h:=ite_t e h
  clear e
  try cbv
  refine drawn ?_ ?_
  ·show _=true
   kernel_rfl
  try cbv
  replace h:=setPF_inv h
  obtain⟨pm13,hpm13,h⟩:=h
  obtain⟨rfl,rfl⟩:=inj2 h
  refine⟨_,_,_,⟨rfl,rfl,rfl⟩,[.closeP (.ext 1)],?_⟩
  try cbv
  refine⟨pm13,hpm13,?_⟩
  clear hpm13
  try cbv
  exact⟨[],rfl,rfl,⟨rfl,⟨rfl,trivial⟩⟩,trivial,trivial⟩
 replace h:=ite_f e h
 clear e
 try cbv
 refine drawn ?_ ?_
 ·show _=true
  kernel_rfl
 try cbv
 replace h:=setPF_inv h
 obtain⟨pm14,hpm14,h⟩:=h
 obtain⟨rfl,rfl⟩:=inj2 h
 refine⟨_,_,_,⟨rfl,rfl,rfl⟩,[.closeP (.ext 1)],?_⟩
 try cbv
 refine⟨pm14,hpm14,?_⟩
 clear hpm14
 try cbv
 exact⟨[],rfl,rfl,⟨rfl,⟨rfl,trivial⟩⟩,trivial,trivial⟩
def F39 (n:Nat) (z1:Int) (z2:Int) (z3:Int) (s4:ByteArray) (l5:List D) (z6:Int) (l7:List D) (pm8:List PRow):Option (Bool×(List PRow)):=
 bO2 (F40 n z1 pm8) fun b9 pm10=>(if b9=true then some (false,pm10)else bS (F99 n z1 pm10) (fun p18=>bO6 (some p18) fun pm11 u12 z13 z14 z15 l16=>letF (IntKind.wrap .i64 (z14+z15)) fun z21=>needF ((8:Int)≠0) (letF (Int.tmod z21 8) fun z22=>bO6 (F95 n z2 z3 s4 l5 z6 l7) fun z23 z24 s25 l26 z27 l28=>needF (0≤z22∧z22<8) (setNF l16 (z22.toNat) (.agg [.int .u8 z23,.int .i64 z24,.str s25,.list true 6 l26,.int .i64 z27,.list false 1 l28]) fun l29=>letF (IntKind.wrap .i64 (z15+1)) fun z30=>setPF pm11 u12 [.int .i64 z13,.int .i64 z14,.int .i64 z30] l29 fun pm31=>some (true,pm31)))) (fun pm17=>none))
theorem T39 (n:Nat):∀⦃z1:Int⦄ ⦃z2:Int⦄ ⦃z3:Int⦄ ⦃s4:ByteArray⦄ ⦃l5:List D⦄ ⦃z6:Int⦄ ⦃l7:List D⦄ ⦃pm8:List PRow⦄ ⦃r1:Bool⦄ ⦃r2:List PRow⦄,F39 n z1 z2 z3 s4 l5 z6 l7 pm8=some (r1,r2)→
    Trip Try.prog inv 39 [.c (.ptr (.ext 0) 0),.d (.int .i64 z1),.d (.agg [.int .u8 z2,.int .i64 z3,.str s4,.list true 6 l5,.int .i64 z6,.list false 1 l7])] [.cells [.ow (.ext 1)],.pmap 3 6 8 pm8 none] (.v (.d (.bool r1))) [.cells [.ow (.ext 1)],.pmap 3 6 8 r2 none] []:=by
 intro z1 z2 z3 s4 l5 z6 l7 pm8 r1 r2 h
 unfold F39 at h
 refine Trip.of tab_ok tab_one fol Try.func39 rfl (by kernel_rfl) rfl rfl rfl (fun M hM hI=>?_)
 try cbv
 refine seq_go ?_
 try cbv
 refine seq_go ?_
 try cbv
 refine seq_go ?_
 try cbv
 replace h:=bO2_inv h
 obtain⟨b9,pm10,hr,h⟩:=h
 refine call_go rfl rfl ?_
 try cbv
 refine call_with hM hI [.ext 0,.ext 1] (T40 _ hr) rfl (by simp) ⟨rfl,⟨rfl,trivial⟩⟩ ⟨trivial,⟨trivial,trivial⟩⟩ (by simp) ?_
 clear hr
 try cbv
 cases b9
 rotate_left
 ·replace h:=ite_t rfl h
  try cbv
  refine seq_go ?_
  try cbv
  obtain⟨rfl,rfl⟩:=inj2 h
  refine fin_go ?_
  try cbv
  exact⟨[],rfl,rfl,⟨rfl,⟨rfl,trivial⟩⟩,trivial,trivial⟩
 replace h:=ite_f Bool.false_ne_true h
 try cbv
 refine seq_go ?_
 try cbv
 replace h:=bS_inv h
 rcases h with⟨p18,hr,h⟩ | ⟨pm17,hr,h⟩
 rotate_left
 ·refine call_go rfl rfl ?_
  try cbv
  refine call_with hM hI [.ext 0,.ext 1] (T99 _ hr (fun r p n=>r= .v (.c (.nilp))∧p=[.cells [.ow (.ext 1)],.pmap 3 6 8 pm17 none]∧n=[]) ⟨rfl,rfl,rfl⟩:Trip _ _ _ _ _ (.v (.c (.nilp))) [.cells [.ow (.ext 1)],.pmap 3 6 8 pm17 none] []) rfl (by simp) ⟨rfl,⟨rfl,trivial⟩⟩ ⟨trivial,⟨trivial,trivial⟩⟩ (by simp) ?_
  clear hr
  try cbv
  refine seq_go ?_
  try cbv
  cases h
 replace h:=bO6_inv h
 obtain⟨pm11,u12,z13,z14,z15,l16,hp,h⟩:=h
 obtain rfl:=Option.some.inj hp
 clear hp
 refine call_go rfl rfl ?_
 try cbv
 refine call_with hM hI [.ext 0,.ext 1] (T99 _ hr (fun r p n=>r= .v (.c (.ptr (.loc 0) 0))∧p=[.cells [.ow (.ext 1)],.pmap 3 6 8 pm11 (some (u12,.loc 0))]∧n=[.arr [.d (.int .i64 z13),.d (.int .i64 z14),.d (.int .i64 z15)] true 6 l16 []]) ⟨rfl,rfl,rfl⟩:Trip _ _ _ _ _ (.v (.c (.ptr (.loc 0) 0))) [.cells [.ow (.ext 1)],.pmap 3 6 8 pm11 (some (u12,.loc 0))] [.arr [.d (.int .i64 z13),.d (.int .i64 z14),.d (.int .i64 z15)] true 6 l16 []]) rfl (by simp) ⟨rfl,⟨rfl,trivial⟩⟩ ⟨trivial,⟨trivial,trivial⟩⟩ (by simp) ?_
 clear hr
 try cbv
 refine seq_go ?_
 try cbv
 replace h:=letF_inv h
 obtain⟨z21,hz,h⟩:=h
 refine⟨z21,hz,?_⟩
 clear hz
 try cbv
 replace h:=needF_inv h
 obtain⟨hn,h⟩:=h
 replace h:=letF_inv h
 obtain⟨z22,hz,h⟩:=h
 refine⟨z22,hn,hz,?_⟩
 clear hn hz
 try cbv
 replace h:=bO6_inv h
 obtain⟨z23,z24,s25,l26,z27,l28,hr,h⟩:=h
 first | refine .inr (.inl ⟨[],?_⟩) | refine .inl ⟨[],?_⟩
 try cbv
 refine call_pure hM hI (T95 _ hr) rfl ?_
 clear hr
 try cbv
 replace h:=needF_inv h
 obtain⟨hn,h⟩:=h
 refine⟨hn.1,hn.2,false,?_⟩
 clear hn
 try cbv
 replace h:=setNF_inv h
 obtain⟨l29,hb,hz,h⟩:=h
 refine⟨(M.lock_iff _).2 hb,l29,hz,?_⟩
 clear hb hz
 try cbv
 refine drawn ?_ ?_
 ·show _=true
  kernel_rfl
 try cbv
 refine seq_go ?_
 try cbv
 replace h:=letF_inv h
 obtain⟨z30,hz,h⟩:=h
 refine⟨z30,hz,?_⟩
 clear hz
 try cbv
 refine seq_go ?_
 try cbv
 replace h:=setPF_inv h
 obtain⟨pm31,hpm31,h⟩:=h
 obtain⟨rfl,rfl⟩:=inj2 h
 refine⟨_,_,_,⟨rfl,rfl,rfl⟩,[.closeP (.ext 1)],?_⟩
 try cbv
 refine⟨pm31,hpm31,?_⟩
 clear hpm31
 try cbv
 exact⟨[],rfl,rfl,⟨rfl,⟨rfl,trivial⟩⟩,trivial,trivial⟩
def F101 (n:Nat) (z1:Int) (z2:Int) (z3:Int) (l4:List D):Option (Int×Int×Int×List D):=
 some (z1,z2,z3,l4)
theorem T101 (n:Nat):∀⦃z1:Int⦄ ⦃z2:Int⦄ ⦃z3:Int⦄ ⦃l4:List D⦄ ⦃r1:Int⦄ ⦃r2:Int⦄ ⦃r3:Int⦄ ⦃r4:List D⦄,F101 n z1 z2 z3 l4=some (r1,r2,r3,r4)→
    Trip Try.prog inv 101 [.c (.ptr (.ext 0) 0)] [.arr [.d (.int .i64 z1),.d (.int .i64 z2),.d (.int .i64 z3)] true 6 l4 []] (.v (.c (.fn 142 [.loc 0]))) [.arr [.d (.int .i64 r1),.d (.int .i64 r2),.d (.int .i64 r3)] true 6 r4 []] [.cells [.ptr (.ext 0) 0]]:=by
 intro z1 z2 z3 l4 r1 r2 r3 r4 h
 unfold F101 at h
 refine Trip.of tab_ok tab_one fol Try.func101 rfl (by kernel_rfl) rfl rfl rfl (fun M hM hI=>?_)
 try cbv
 refine seq_go ?_
 try cbv
 refine seq_go ?_
 try cbv
 obtain⟨rfl,rfl,rfl,rfl⟩:=inj4 h
 refine fin_go ?_
 try cbv
 exact⟨[.loc 0],rfl,rfl,⟨rfl,trivial⟩,⟨rfl,trivial⟩,trivial⟩
def F42r0x1 (n:Nat) (z1:Int) (z2:Int) (s3:ByteArray) (l4:List D) (z5:Int) (l6:List D) (l7:List D):Option (List D):=
 lenF l7 fun z8=>appF 88 l7 ([.agg [.int .u8 0,.int .i64 0,.str ByteArray.empty,.list true 6 [],.int .i64 0,.list false 1 []]]) fun l9=>needF (0≤z8∧z8.toNat<l9.length) (getN l9 (z8.toNat) fun x10=>ds_t49 x10 fun z11 z12 s13 l14 z15 l16=>setF l9 (z8.toNat) (.agg [.int .u8 z1,.int .i64 z2,.str s3,.list true 6 l4,.int .i64 z5,.list false 1 l6]) fun l17=>some l17)
theorem T42r0x1 (n:Nat):∀⦃z1:Int⦄ ⦃z2:Int⦄ ⦃s3:ByteArray⦄ ⦃l4:List D⦄ ⦃z5:Int⦄ ⦃l6:List D⦄ ⦃l7:List D⦄ ⦃r1:List D⦄,F42r0x1 n z1 z2 s3 l4 z5 l6 l7=some r1→
  RoundK Try.prog inv (rf42_0 ()) [(6,.v (.c (.ptr (.ext 0) 0)))] [.d (.agg [.int .u8 z1,.int .i64 z2,.str s3,.list true 6 l4,.int .i64 z5,.list false 1 l6])] [.cells [.ow (.ext 1)],.tree .flat true 6 l7 none] fun j p n=>j=none∧p=[.cells [.ow (.loc 0)],.gone]∧n=[.tree .flat true 6 r1 none]:=by
 intro z1 z2 s3 l4 z5 l6 l7 r1 h
 unfold F42r0x1 at h
 refine RoundK.of' tab_ok tab_one fol rfl rfl rfl rfl rfl (by kernel_rfl) (fun M hM hI=>?_)
 try cbv
 replace h:=lenF_inv M h
 obtain⟨z8,hz,h⟩:=h
 refine⟨z8,hz,?_⟩
 clear hz
 try cbv
 refine⟨false,?_⟩
 try cbv
 refine⟨true,?_⟩
 try cbv
 replace h:=appF_inv h
 obtain⟨l9,hb,hz,h⟩:=h
 refine⟨true,?_⟩
 try cbv
 refine⟨false,?_⟩
 try cbv
 refine⟨(M.lock_iff _).2 hb,l9,hz,?_⟩
 clear hb hz
 try cbv
 replace h:=needF_inv h
 obtain⟨hn,h⟩:=h
 refine⟨(M.lock_iff _).2 hn,?_⟩
 clear hn
 try cbv
 replace h:=getN_inv h
 obtain⟨x10,hx,h⟩:=h
 replace h:=ds_t49_inv h
 obtain⟨z11,z12,s13,l14,z15,l16,rfl,h⟩:=h
 refine⟨_,hx,?_⟩
 clear hx
 try cbv
 replace h:=setF_inv h
 obtain⟨l17,hz,h⟩:=h
 refine⟨l17,hz,?_⟩
 clear hz
 try cbv
 refine drawn ?_ ?_
 ·show _=true
  kernel_rfl
 try cbv
 obtain rfl:=Option.some.inj h
 refine⟨_,_,⟨rfl,rfl,rfl⟩,[],?_⟩
 try cbv
 exact⟨[.loc 192],rfl,⟨rfl,trivial⟩,⟨rfl,trivial⟩,trivial⟩
mutual
def L142_1:Nat→Int→Int→Int→(List D)→(List D)→Option (Int×Int×Int×List D×List D)
 | 0,_,_,_,_,_=>none
 | n+1,z5,z6,z7,l8,l9=>
  (if (0:Int)<z7 then L142_2 n z5 z6 z7 l8 l9 true else L142_2 n z5 z6 z7 l8 l9 false)
def L142_2:Nat→Int→Int→Int→(List D)→(List D)→Bool→Option (Int×Int×Int×List D×List D)
 | 0,_,_,_,_,_,_=>none
 | n+1,z5,z6,z7,l8,l9,b10=>
  (if b10=true then bO10 (F100 n z5 z6 z7 l8) fun z11 z12 s13 l14 z15 l16 z17 z18 z19 l20=>bO1 (F42r0x1 n z11 z12 s13 l14 z15 l16 l9) fun l21=>L142_1 n z17 z18 z19 l20 l21 else some (z5,z6,z7,l8,l9))
end
def F142 (n:Nat) (z1:Int) (z2:Int) (z3:Int) (l4:List D):Option (Int×Int×Int×List D×List D):=
 L142_1 n z1 z2 z3 l4 ([]:List D)
theorem T142 (n:Nat):∀⦃z1:Int⦄ ⦃z2:Int⦄ ⦃z3:Int⦄ ⦃l4:List D⦄ ⦃r1:Int⦄ ⦃r2:Int⦄ ⦃r3:Int⦄ ⦃r4:List D⦄ ⦃r5:List D⦄,F142 n z1 z2 z3 l4=some (r1,r2,r3,r4,r5)→
    Trip Try.prog inv 142 [.c (.yl (.ext 0)),.c (.ptr (.ext 2) 0)] [.rnd rf42_0 [(6,.v (.c (.ptr (.ext 1) 0)))],.cells [.nils true 6],.cells [.ptr (.ext 3) 0],.arr [.d (.int .i64 z1),.d (.int .i64 z2),.d (.int .i64 z3)] true 6 l4 []] (.t []) [.rnd rf42_0 [(6,.v (.c (.ptr (.ext 1) 0)))],.cells [.ow (.loc 0)],.cells [.ptr (.ext 3) 0],.arr [.d (.int .i64 r1),.d (.int .i64 r2),.d (.int .i64 r3)] true 6 r4 []] [.tree .flat true 6 r5 none]:=by
 intro z1 z2 z3 l4 r1 r2 r3 r4 r5 h
 unfold F142 at h
 refine Trip.of tab_ok tab_one fol Try.func142 rfl (by kernel_rfl) rfl rfl rfl (fun M hM hI=>?_)
 try cbv
 refine loop_invG (T:=Nat×Int×Int×Int×List D×List D) [.treeC (.ext 1) 0 true 6,.flatten (.loc 0)] [] [0,1] [.ext 0,.ext 1,.ext 2,.ext 3,.loc 0] 32 (fun t=>⟨[(0,.v (.c (.yl (.ext 0)))),(1,.v (.c (.ptr (.ext 2) 0)))],[(.ext 0,.rnd rf42_0 [(6,.v (.c (.ptr (.ext 1) 0)))]),(.ext 1,.cells [.ow (.loc 0)]),(.ext 2,.cells [.ptr (.ext 3) 0]),(.ext 3,.arr [.d (.int .i64 t.2.1),.d (.int .i64 t.2.2.1),.d (.int .i64 t.2.2.2.1)] true 6 t.2.2.2.2.1 []),(.loc 0,.tree .flat true 6 t.2.2.2.2.2 none)],32⟩)
   (fun t=>t.1≤n∧L142_1 t.1 t.2.1 t.2.2.1 t.2.2.2.1 t.2.2.2.2.1 t.2.2.2.2.2=some (r1,r2,r3,r4,r5)) (fun t=>t.1) (n,(z1,z2,z3,l4,([]:List D))) ⟨Nat.le_refl _,h⟩ (by cbv) ?_
 clear h
 rintro⟨m1,z5,z6,z7,l8,l9⟩ ⟨hm1,h⟩
 replace hm1:m1≤n:=hm1
 obtain _ | m1:=m1
 ·replace h:L142_1 0 z5 z6 z7 l8 l9=some (r1,r2,r3,r4,r5):=h
  rw[L142_1]at h
  cases h
 replace h:L142_1 (m1+1) z5 z6 z7 l8 l9=some (r1,r2,r3,r4,r5):=h
 rw[L142_1]at h
 try cbv
 refine seq_go ?_
 try cbv
 refine seq_join (T:=Nat×Bool) (fun t=>⟨[(0,.v (.c (.yl (.ext 0)))),(1,.v (.c (.ptr (.ext 2) 0))),(7,.v (.d (.bool t.2)))],[(.ext 0,.rnd rf42_0 [(6,.v (.c (.ptr (.ext 1) 0)))]),(.ext 1,.cells [.ow (.loc 0)]),(.ext 2,.cells [.ptr (.ext 3) 0]),(.ext 3,.arr [.d (.int .i64 z5),.d (.int .i64 z6),.d (.int .i64 z7)] true 6 l8 []),(.loc 0,.tree .flat true 6 l9 none)],192⟩) (fun t=>t.1≤m1∧L142_2 t.1 z5 z6 z7 l8 l9 t.2=some (r1,r2,r3,r4,r5)) ?_ ?_
 ·try cbv
  refine splitL (fun e=>?_) (fun e=>?_)
  ·replace h:=ite_t e h
   clear e
   try cbv
   exact join_next (m1,true) [0,1,7] [.ext 0,.ext 1,.ext 2,.ext 3,.loc 0] 192 ⟨by omega,h⟩ (by cbv)
  replace h:=ite_f (Int.not_lt.2 e) h
  clear e
  try cbv
  exact join_next (m1,false) [0,1,7] [.ext 0,.ext 1,.ext 2,.ext 3,.loc 0] 192 ⟨by omega,h⟩ (by cbv)
 clear h
 rintro⟨m2,b10⟩ ⟨hm2,h⟩
 replace hm2:m2≤m1:=hm2
 obtain _ | m2:=m2
 ·replace h:L142_2 0 z5 z6 z7 l8 l9 b10=some (r1,r2,r3,r4,r5):=h
  rw[L142_2]at h
  cases h
 replace h:L142_2 (m2+1) z5 z6 z7 l8 l9 b10=some (r1,r2,r3,r4,r5):=h
 rw[L142_2]at h
 try cbv
 cases b10
 ·replace h:=ite_f Bool.false_ne_true h
  try cbv
  obtain⟨rfl,rfl,rfl,rfl,rfl⟩:=inj5 h
  refine fin_go ?_
  try cbv
  exact⟨[.loc 0],rfl,rfl,⟨rfl,⟨rfl,⟨rfl,⟨rfl,trivial⟩⟩⟩⟩,⟨rfl,trivial⟩,trivial⟩
 replace h:=ite_t rfl h
 try cbv
 refine seq_go ?_
 try cbv
 replace h:=bO10_inv h
 obtain⟨z11,z12,s13,l14,z15,l16,z17,z18,z19,l20,hr,h⟩:=h
 refine call_go rfl rfl ?_
 try cbv
 refine call_with hM hI [.ext 3] (T100 _ hr) rfl (by simp) ⟨rfl,trivial⟩ ⟨trivial,trivial⟩ (by simp) ?_
 clear hr
 try cbv
 replace h:=bO1_inv h
 obtain⟨l21,hr,h⟩:=h
 refine yl_with hM hI [.ext 1,.loc 0] (sl0:=[(6,.v (.c (.ptr (.ext 0) 0)))]) rfl rfl rfl rfl (T42r0x1 _ hr) rfl rfl rfl (by simp) ⟨rfl,⟨rfl,trivial⟩⟩ ⟨trivial,⟨trivial,trivial⟩⟩ (by simp) ?_
 clear hr
 try cbv
 refine⟨false,rfl,?_⟩
 try cbv
 refine loop_nextG (m2,(z17,z18,z19,l20,l21)) [] [(288,0)] [0,1] [.ext 0,.ext 1,.ext 2,.ext 3,.loc 288] 32 ⟨by omega,h⟩ (Nat.lt_succ_of_le (by omega)) ?_
 try cbv
def F42 (n:Nat) (z1:Int) (pm2:List PRow):Option ((((List PRow)×List D) ⊕ ((List PRow)))):=
 bS (F99 n z1 pm2) (fun p10=>bO6 (some p10) fun pm3 u4 z5 z6 z7 l8=>bO4 (F101 n z5 z6 z7 l8) fun z13 z14 z15 l16=>bO5 (F142 n z13 z14 z15 l16) fun z17 z18 z19 l20 l21=>setPF pm3 u4 [.int .i64 z17,.int .i64 z18,.int .i64 z19] l20 fun pm22=>delPF z1 pm22 fun pm23=>some (.inl (pm23,l21))) (fun pm9=>some (.inr pm9))
theorem T42 (n:Nat):∀⦃z1:Int⦄ ⦃pm2:List PRow⦄ ⦃r:(((List PRow)×List D) ⊕ ((List PRow)))⦄,F42 n z1 pm2=some r→∀Q:AV→List AObj→List AObj→Prop,(match r with | .inl (r1,r2)=>Q (.v (.c (.ow (.loc 0)))) [.cells [.ow (.ext 1)],.pmap 3 6 8 r1 none] [.tree .flat true 6 r2 none] | .inr r1=>Q (.v (.c (.ow (.loc 0)))) [.cells [.ow (.ext 1)],.pmap 3 6 8 r1 none] [.tree .row true 6 [] none])→
    TripK Try.prog inv 42 [.c (.ptr (.ext 0) 0),.d (.int .i64 z1)] [.cells [.ow (.ext 1)],.pmap 3 6 8 pm2 none] Q:=by
 intro z1 pm2 r h Q hQ
 unfold F42 at h
 refine TripK.of tab_ok tab_one fol Try.func42 rfl (by kernel_rfl) rfl rfl rfl (fun M hM hI=>?_)
 try cbv
 refine seq_go ?_
 try cbv
 refine seq_go ?_
 try cbv
 replace h:=bS_inv h
 rcases h with⟨p10,hr,h⟩ | ⟨pm9,hr,h⟩
 rotate_left
 ·refine call_go rfl rfl ?_
  try cbv
  refine call_with hM hI [.ext 0,.ext 1] (T99 _ hr (fun r p n=>r= .v (.c (.nilp))∧p=[.cells [.ow (.ext 1)],.pmap 3 6 8 pm9 none]∧n=[]) ⟨rfl,rfl,rfl⟩:Trip _ _ _ _ _ (.v (.c (.nilp))) [.cells [.ow (.ext 1)],.pmap 3 6 8 pm9 none] []) rfl (by simp) ⟨rfl,⟨rfl,trivial⟩⟩ ⟨trivial,⟨trivial,trivial⟩⟩ (by simp) ?_
  clear hr
  try cbv
  refine seq_go ?_
  try cbv
  refine seq_go ?_
  try cbv
  refine seq_go ?_
  try cbv
  obtain rfl:=Option.some.inj h
  refine⟨_,_,_,hQ,[.treeS 4 true 6],?_⟩
  try cbv
  exact⟨[.loc 256],rfl,rfl,⟨rfl,⟨rfl,trivial⟩⟩,⟨rfl,trivial⟩,trivial⟩
 replace h:=bO6_inv h
 obtain⟨pm3,u4,z5,z6,z7,l8,hp,h⟩:=h
 obtain rfl:=Option.some.inj hp
 clear hp
 refine call_go rfl rfl ?_
 try cbv
 refine call_with hM hI [.ext 0,.ext 1] (T99 _ hr (fun r p n=>r= .v (.c (.ptr (.loc 0) 0))∧p=[.cells [.ow (.ext 1)],.pmap 3 6 8 pm3 (some (u4,.loc 0))]∧n=[.arr [.d (.int .i64 z5),.d (.int .i64 z6),.d (.int .i64 z7)] true 6 l8 []]) ⟨rfl,rfl,rfl⟩:Trip _ _ _ _ _ (.v (.c (.ptr (.loc 0) 0))) [.cells [.ow (.ext 1)],.pmap 3 6 8 pm3 (some (u4,.loc 0))] [.arr [.d (.int .i64 z5),.d (.int .i64 z6),.d (.int .i64 z7)] true 6 l8 []]) rfl (by simp) ⟨rfl,⟨rfl,trivial⟩⟩ ⟨trivial,⟨trivial,trivial⟩⟩ (by simp) ?_
 clear hr
 try cbv
 refine seq_go ?_
 try cbv
 refine seq_go ?_
 try cbv
 refine seq_go ?_
 try cbv
 refine seq_go ?_
 try cbv
 refine seq_go ?_
 try cbv
 replace h:=bO4_inv h
 obtain⟨z13,z14,z15,l16,hr,h⟩:=h
 refine call_go rfl rfl ?_
 try cbv
 refine call_with hM hI [.loc 96] (T101 _ hr) rfl (by simp) ⟨rfl,trivial⟩ ⟨trivial,trivial⟩ (by simp) ?_
 clear hr
 try cbv
 replace h:=bO5_inv h
 obtain⟨z17,z18,z19,l20,l21,hr,h⟩:=h
 refine range_with hM hI [.loc 320,.loc 224,.loc 288,.loc 96] [(6,.v (.c (.ptr (.loc 224) 0)))] rfl ⟨rfl,trivial⟩ (T142 _ hr) rfl (by simp) ⟨rfl,⟨rfl,⟨rfl,⟨rfl,trivial⟩⟩⟩⟩ ⟨trivial,⟨trivial,⟨trivial,⟨trivial,trivial⟩⟩⟩⟩ (by simp) ?_
 clear hr
 try cbv
 refine seq_go ?_
 try cbv
 replace h:=setPF_inv h
 obtain⟨pm22,hpm22,h⟩:=h
 refine op_must [.closeP (.ext 1)] ?_
 try cbv
 refine⟨pm22,hpm22,?_⟩
 clear hpm22
 try cbv
 first | refine⟨(rfl:(_:Nat)=_),?_⟩ | skip
 try cbv
 replace h:=delPF_inv h
 obtain⟨pm23,hz,h⟩:=h
 refine⟨pm23,(M.lock_iff _).2 hz,?_⟩
 clear hz
 try cbv
 refine seq_go ?_
 try cbv
 obtain rfl:=Option.some.inj h
 refine finQ_go hQ ?_
 try cbv
 exact⟨[.loc 352],rfl,rfl,⟨rfl,⟨rfl,trivial⟩⟩,⟨rfl,trivial⟩,trivial⟩
end Go.Proofs.Ytiiojajgajnhpaa
end
set_option linter.unusedVariables false
noncomputable section
namespace Go.Proofs.Ytiiojajgajnhpaa
open Go Go.AM
structure Ch where
 key:Int
 room:Int
 q:List VV
def zrow:D:=.agg [.int .u8 0,.int .i64 0,.str ByteArray.empty,.list true 6 [],.int .i64 0,.list false 1 []]
def ROK (x:PRow) (c:Ch):Prop:=∃(a:Nat) (L:List D),x=(c.key,[.int .i64 c.room,.int .i64 (a:Int),.int .i64 (c.q.length:Int)],L)∧1≤c.room∧c.room≤8∧a<8∧L.length=8∧(c.q.length:Int)≤c.room∧
 (∀(i:Nat) v,c.q[i]?=some v→L[(a+i) % 8]?=some v.row)∧∀v∈c.q,VS v
def QOK:List PRow→List Ch→Prop
 | [],[]=>True
 | x::xs,c::cs=>ROK x c∧QOK xs cs
 | _,_=>False
def getC (z:Int):List Ch→Option Ch
 | []=>none
 | c::r=>if c.key=z then some c else getC z r
def updC (z:Int) (c':Ch):List Ch→List Ch
 | []=>[]
 | c::r=>if c.key=z then c'::r else c::updC z c' r
def delC (z:Int):List Ch→List Ch
 | []=>[]
 | c::r=>if c.key=z then r else c::delC z r
theorem getC_key {z:Int}:∀{S:List Ch}{c:Ch},getC z S=some c→c.key=z
 | [],c,h=>by cases h
 | d::r,c,h=>by
  unfold getC at h
  split at h
  ·rename_i e;cases h;exact e
  ·exact getC_key h
theorem getC_mem {z:Int}:∀{S:List Ch}{c:Ch},getC z S=some c→c∈S
 | [],c,h=>by cases h
 | d::r,c,h=>by
  unfold getC at h
  split at h
  ·cases h;simp
  ·exact List.mem_cons_of_mem _ (getC_mem h)
theorem updC_same {z:Int}:∀{S:List Ch}{c:Ch},getC z S=some c→updC z c S=S
 | [],c,h=>by cases h
 | d::r,c,h=>by
  unfold getC at h
  unfold updC
  split at h
  ·rename_i e;cases h;rw[if_pos e]
  ·rename_i e;rw[if_neg e,updC_same h]
theorem getC_upd {z y:Int}{c':Ch}(hk:c'.key=z):∀{S:List Ch}{c:Ch},getC z S=some c→getC y (updC z c' S)=if y=z then some c' else getC y S
 | [],c,h=>by cases h
 | d::r,c,h=>by
  unfold getC at h
  unfold updC
  split at h
  ·rename_i e
   rw[if_pos e]
   unfold getC
   by_cases hy:y=z
   ·rw[if_pos (hk.trans hy.symm),if_pos hy]
   ·rw[if_neg (fun h=>hy (h.symm.trans hk)),if_neg hy,if_neg (fun h=>hy (h.symm.trans e))]
  ·rename_i e
   rw[if_neg e]
   unfold getC
   by_cases hd:d.key=y
   ·have:y≠z:=fun h=>e (hd.trans h)
    rw[if_pos hd,if_neg this,if_pos hd]
   ·rw[if_neg hd,if_neg hd,getC_upd hk h]
theorem delC_upd {z:Int}{c':Ch}(hk:c'.key=z):∀{S:List Ch}{c:Ch},getC z S=some c→delC z (updC z c' S)=delC z S
 | [],c,h=>by cases h
 | d::r,c,h=>by
  unfold getC at h
  unfold updC
  split at h
  ·rename_i e
   rw[if_pos e]
   unfold delC
   rw[if_pos hk,if_pos e]
  ·rename_i e
   rw[if_neg e]
   unfold delC
   rw[if_neg e,if_neg e,delC_upd hk h]
theorem getC_app {z:Int}{d:Ch}:∀{S:List Ch},getC z (S++[d])=match getC z S with | some c=>some c | none=>if d.key=z then some d else none
 | []=>by simp[getC]
 | c::r=>by
  show getC z (c::(r++[d]))=_
  unfold getC
  split
  ·rfl
  ·exact getC_app
theorem look (z:Int):∀{pm:List PRow}{S:List Ch}(k:Nat),QOK pm S→(findP z k pm=none∧getC z S=none)∨∃(u:Nat) (x:PRow) (c:Ch),findP z k pm=some (k+u,x)∧getC z S=some c∧ROK x c∧
  (∀y c',ROK (x.1,y) c'→QOK (pm.modify u fun r=>(r.1,y)) (updC z c' S))∧QOK (pm.eraseIdx u) (delC z S)
 | [],[],k,_=>.inl ⟨rfl,rfl⟩
 | x::xs,c::cs,k,h=>by
  have hx:x.1=c.key:=by
   obtain⟨a,L,e,_⟩:=h.1
   rw[e]
  by_cases e:c.key=z
  ·refine .inr ⟨0,x,c,by simp[findP,hx,e],by simp[getC,e],h.1,fun y c' hy=>?_,?_⟩
   ·simp only[updC,if_pos e,List.modify_zero_cons]
    exact⟨hy,h.2⟩
   ·simp only[delC,if_pos e,List.eraseIdx_cons_zero]
    exact h.2
  ·have e':x.1≠z:=by rw[hx];exact e
   rcases look z (k+1) h.2 with⟨h1,h2⟩ | ⟨u,y,d,h1,h2,h3,h4,h5⟩
   ·exact .inl ⟨by simp[findP,e',h1],by simp[getC,e,h2]⟩
   ·refine .inr ⟨u+1,y,d,by simp only[findP,if_neg e',h1];congr 2;omega,by simp[getC,e,h2],h3,fun w c' hw=>?_,?_⟩
    ·simp only[updC,if_neg e,List.modify_succ_cons]
     exact⟨h.1,h4 w c' hw⟩
    ·simp only[delC,if_neg e,List.eraseIdx_cons_succ]
     exact⟨h.1,h5⟩
 | [],_::_,_,h=>h.elim
 | _::_,[],_,h=>h.elim
theorem QOK.app {x:PRow}{c:Ch}(hx:ROK x c):∀{pm:List PRow}{S:List Ch},QOK pm S→QOK (pm++[x]) (S++[c])
 | [],[],_=>⟨hx,trivial⟩
 | _::_,_::_,h=>⟨h.1,QOK.app hx h.2⟩
 | [],_::_,h=>h.elim
 | _::_,[],h=>h.elim
theorem QOK.vs:∀{pm:List PRow}{S:List Ch},QOK pm S→∀c∈S,1≤c.room∧c.room≤8∧(c.q.length:Int)≤c.room∧∀v∈c.q,VS v
 | [],[],_,c,h=>by cases h
 | x::xs,d::cs,h,c,hc=>by
  rcases List.mem_cons.1 hc with rfl | hc
  ·obtain⟨a,L,_,h1,h2,_,_,h3,_,h4⟩:=h.1
   exact⟨h1,h2,h3,h4⟩
  ·exact QOK.vs h.2 c hc
 | [],_::_,h,_,_=>h.elim
 | _::_,[],h,_,_=>h.elim
theorem ev99n {n:Nat}{z:Int}{pm:List PRow}(h:findP z 0 pm=none):F99 n z pm=some (.inr pm):=by
 unfold F99 findPF
 rw[h]
theorem ev99s {n:Nat}{z:Int}{pm:List PRow}{u:Nat}{key room a m:Int}{L:List D}(h:findP z 0 pm=some (u,key,[.int .i64 room,.int .i64 a,.int .i64 m],L)):F99 n z pm=some (.inl (pm,u,room,a,m,L)):=by
 unfold F99 findPF
 rw[h]
 rfl
theorem bSl {α β γ:Type}(a:α) (k1:α→Option γ) (k2:β→Option γ):bS (some (.inl a)) k1 k2=k1 a:=id rfl
theorem bSr {α β γ:Type}(b:β) (k1:α→Option γ) (k2:β→Option γ):bS (some (.inr b)) k1 k2=k2 b:=id rfl
theorem bO6t {A B C D E F γ:Type}(a:A) (b:B) (c:C) (d:D) (e:E) (f:F) (k:A→B→C→D→E→F→Option γ):bO6 (some (a,b,c,d,e,f)) k=k a b c d e f:=id rfl
def fullC (z:Int) (S:List Ch):Bool:=match getC z S with
 | none=>true
 | some c=>decide ((c.q.length:Int)=c.room)
def emptyC (z:Int) (S:List Ch):Bool:=match getC z S with
 | none=>true
 | some c=>decide ((c.q.length:Int)=0)
theorem evFull {pm:List PRow}{S:List Ch}(h:QOK pm S) (z:Int):∃pm',Ev (fun n=>F40 n z pm) (fullC z S,pm')∧QOK pm' S:=by
 rcases look z 0 h with⟨h1,h2⟩ | ⟨u,x,c,h1,h2,h3,h4,_⟩
 ·refine⟨pm,.of fun n=>?_,h⟩
  unfold F40
  rw[ev99n h1,bSr]
  simp[fullC,h2]
 ·obtain⟨a,L,hx,r⟩:=id h3
  subst hx
  rw[Nat.zero_add]at h1
  have h5:=h4 _ c h3
  rw[updC_same h2]at h5
  refine⟨_,.of fun n=>?_,h5⟩
  unfold F40
  rw[ev99s h1,bSl,bO6t]
  simp only[fullC,h2]
  by_cases e:(c.q.length:Int)=c.room
  ·rw[if_pos e,decide_eq_true e];rfl
  ·rw[if_neg e,decide_eq_false e];rfl
theorem evEmpty {pm:List PRow}{S:List Ch}(h:QOK pm S) (z:Int):∃pm',Ev (fun n=>F41 n z pm) (emptyC z S,pm')∧QOK pm' S:=by
 rcases look z 0 h with⟨h1,h2⟩ | ⟨u,x,c,h1,h2,h3,h4,_⟩
 ·refine⟨pm,.of fun n=>?_,h⟩
  unfold F41
  rw[ev99n h1,bSr]
  simp[emptyC,h2]
 ·obtain⟨a,L,hx,r⟩:=id h3
  subst hx
  rw[Nat.zero_add]at h1
  have h5:=h4 _ c h3
  rw[updC_same h2]at h5
  refine⟨_,.of fun n=>?_,h5⟩
  unfold F41
  rw[ev99s h1,bSl,bO6t]
  simp only[emptyC,h2]
  by_cases e:(c.q.length:Int)=0
  ·rw[if_pos e,decide_eq_true e];rfl
  ·rw[if_neg e,decide_eq_false e];rfl
def makeC (z room:Int) (S:List Ch):List Ch:=match getC z S with
 | some _=>S
 | none=>if room<1∨8<room then S else S++[⟨z,room,[]⟩]
theorem evMake {pm:List PRow}{S:List Ch}(h:QOK pm S) (z room:Int):∃pm',Ev (fun n=>F37 n z room pm) pm'∧QOK pm' (makeC z room S):=by
 rcases look z 0 h with⟨h1,h2⟩ | ⟨u,x,c,h1,h2,h3,h4,_⟩
 ·simp only[makeC,h2]
  by_cases c1:room<1
  ·rw[if_pos (.inl c1)]
   refine⟨pm,⟨1,fun n hn=>?_⟩,h⟩
   obtain⟨m,rfl⟩:∃m,n=m+1:=⟨n - 1,by omega⟩
   show F37 (m+1) z room pm=_
   unfold F37
   rw[ev99n h1,bSr,if_pos c1,L37_1,if_pos rfl]
  ·by_cases c2:8<room
   ·rw[if_pos (.inr c2)]
    refine⟨pm,⟨1,fun n hn=>?_⟩,h⟩
    obtain⟨m,rfl⟩:∃m,n=m+1:=⟨n - 1,by omega⟩
    show F37 (m+1) z room pm=_
    unfold F37
    rw[ev99n h1,bSr,if_neg c1,if_pos c2,L37_1,if_pos rfl]
   ·rw[if_neg (by omega)]
    refine⟨pm++[(z,[.int .i64 room,.int .i64 0,.int .i64 0],[zrow,zrow,zrow,zrow,zrow,zrow,zrow,zrow])],⟨1,fun n hn=>?_⟩,QOK.app (c:=⟨z,room,[]⟩) ⟨0,[zrow,zrow,zrow,zrow,zrow,zrow,zrow,zrow],rfl,by show 1≤room;omega,by show room≤8;omega,by omega,rfl,by show (0:Int)≤room;omega,fun i v hv=>by simp at hv,fun v hv=>by simp at hv⟩ h⟩
    obtain⟨m,rfl⟩:∃m,n=m+1:=⟨n - 1,by omega⟩
    show F37 (m+1) z room pm=_
    unfold F37
    rw[ev99n h1,bSr,if_neg c1,if_neg c2,L37_1,if_neg Bool.false_ne_true]
    unfold putPF
    rw[h1]
    rfl
 ·simp only[makeC,h2]
  obtain⟨a,L,hx,r⟩:=id h3
  subst hx
  rw[Nat.zero_add]at h1
  have h5:=h4 _ c h3
  rw[updC_same h2]at h5
  refine⟨_,⟨1,fun n hn=>?_⟩,h5⟩
  obtain⟨m,rfl⟩:∃m,n=m+1:=⟨n - 1,by omega⟩
  show F37 (m+1) z room pm=_
  unfold F37
  rw[ev99s h1,bSl,bO6t]
  show L37_1 (m+1) z room true _=_
  rw[L37_1,if_pos rfl]
theorem tm (k:Nat):Int.tmod (k:Int) 8=((k % 8:Nat):Int):=by
 rw[Int.tmod_eq_emod_of_nonneg (by omega)];omega
def pushC (z:Int) (v:VV) (S:List Ch):Bool×List Ch:=match getC z S with
 | none=>(false,S)
 | some c=>if (c.q.length:Int)=c.room then (false,S)else (true,updC z {c with q:=c.q++[v]} S)
theorem evPush {pm:List PRow}{S:List Ch}(h:QOK pm S) (z:Int) {v:VV}(hv:VS v):∃pm',Ev (fun n=>F39 n z v.k v.i v.nm v.fs v.id v.pt pm) ((pushC z v S).1,pm')∧QOK pm' (pushC z v S).2:=by
 obtain⟨pm1,e1,k1⟩:=evFull h z
 rcases look z 0 k1 with⟨h1,h2⟩ | ⟨u,x,c,h1,h2,h3,h4,_⟩
 ·refine⟨pm1,Ev.bO2 e1 ?_,by simpa [pushC,h2] using k1⟩
  simp only[fullC,pushC,h2,if_true]
  exact .ret
 ·obtain⟨a,L,hx,r1,r2,r3,r4,r5,r6,r7⟩:=id h3
  subst hx
  rw[Nat.zero_add]at h1
  by_cases e:(c.q.length:Int)=c.room
  ·refine⟨pm1,Ev.bO2 e1 ?_,by simpa [pushC,h2,e] using k1⟩
   simp only[fullC,pushC,h2,decide_eq_true e,if_true,if_pos e]
   exact .ret
  ·have hi:(a+c.q.length) % 8<8:=Nat.mod_lt _ (by omega)
   have hro:ROK (c.key,[.int .i64 c.room,.int .i64 (a:Int),.int .i64 ((c.q.length:Int)+1)],L.set ((a+c.q.length) % 8) v.row) {c with q:=c.q++[v]}:=by
    refine⟨a,L.set ((a+c.q.length) % 8) v.row,by simp,r1,r2,r3,by simpa using r4,by simp;omega,fun i w hw=>?_,fun w hw=>?_⟩
    ·simp only[]at hw
     by_cases hi':i<c.q.length
     ·rw[List.getElem?_append_left hi']at hw
      rw[List.getElem?_set_ne (by omega)]
      exact r6 i w hw
     ·have hlt:=(List.getElem?_eq_some_iff.1 hw).1
      simp at hlt
      obtain rfl:i=c.q.length:=by omega
      rw[List.getElem?_append_right (Nat.le_refl _),Nat.sub_self]at hw
      cases hw
      rw[List.getElem?_set_self (by omega)]
    ·rcases List.mem_append.1 hw with hw | hw
     ·exact r7 w hw
     ·rw[List.mem_singleton.1 hw];exact hv
   have h5:=h4 _ _ hro
   refine⟨_,Ev.bO2 e1 ?_,by simpa [pushC,h2,e] using h5⟩
   simp only[fullC,pushC,h2,decide_eq_false e,Bool.false_eq_true,if_false,if_neg e,ev99s h1,bSl,bO6t,letF]
   have w1:IntKind.wrap .i64 ((a:Int)+(c.q.length:Int))=((a+c.q.length:Nat):Int):=by rw[iw (by omega) (by omega)];omega
   simp only[w1,tm,need_pos (show ((8:Int)≠0)by decide)]
   refine Ev.bO6 (ev10 hv) ?_
   have hb8:(0:Int)≤(((a+c.q.length) % 8:Nat):Int)∧(((a+c.q.length) % 8:Nat):Int)<8:=by omega
   simp only[need_pos hb8]
   have e8:(((a+c.q.length) % 8:Nat):Int).toNat=(a+c.q.length) % 8:=by omega
   simp only[setNF,e8,r4,if_pos hi,letF,iw (show -9223372036854775808≤(c.q.length:Int)+1 by omega) (by omega)]
   exact .ret
def popC (z:Int) (S:List Ch):VV×Bool×List Ch:=match getC z S with
 | none=>(zeroV,false,S)
 | some c=>match c.q with
  | []=>(zeroV,false,S)
  | v::q=>(v,true,updC z {c with q:=q} S)
theorem pop1 {c:Ch}{v:VV}{q:List VV}{a:Nat}{L:List D}(hq:c.q=v::q) (r1:1≤c.room) (r2:c.room≤8) (r3:a<8) (r4:L.length=8) (r5:(c.q.length:Int)≤c.room) (r6:∀(i:Nat) v,c.q[i]?=some v→L[(a+i) % 8]?=some v.row) (r7:∀v∈c.q,VS v):
  (∀n,F100 n c.room (a:Int) (c.q.length:Int) L=some (v.k,v.i,v.nm,v.fs,v.id,v.pt,c.room,(((a+1) % 8:Nat):Int),(q.length:Int),L.set a zrow))∧
   (L.set a zrow).length=8∧(∀(i:Nat) w,q[i]?=some w→(L.set a zrow)[((a+1) % 8+i) % 8]?=some w.row)∧(∀w∈q,VS w):=by
 have hl:c.q.length=q.length+1:=by rw[hq];rfl
 have h0:L[a]?=some v.row:=by
  have:=r6 0 v (by rw[hq];rfl)
  rwa [Nat.add_zero,Nat.mod_eq_of_lt r3]at this
 refine⟨fun n=>?_,by simpa using r4,fun i w hw=>?_,fun w hw=>r7 w (by rw[hq];exact List.mem_cons_of_mem _ hw)⟩
 ·unfold F100
  rw[need_pos (by omega)]
  have e0:(a:Int).toNat=a:=by omega
  rw[e0,getN_some h0,ds25,need_pos (by omega)]
  simp only[setNF,r4,if_pos r3,letF,iw (show -9223372036854775808≤(a:Int)+1 by omega) (by omega)]
  rw[need_pos (by decide),show (a:Int)+1=((a+1:Nat):Int)by omega,tm]
  rw[iw (by omega) (by omega),show (c.q.length:Int) - 1=(q.length:Int)by omega]
  rfl
 ·have hi:=(List.getElem?_eq_some_iff.1 hw).1
  rw[show ((a+1) % 8+i) % 8=(a+(i+1)) % 8 by omega,List.getElem?_set_ne (by omega)]
  exact r6 (i+1) w (by rw[hq];exact hw)
theorem evPop {pm:List PRow}{S:List Ch}(h:QOK pm S) (z:Int):∃pm',Ev (fun n=>F38 n z pm) ((popC z S).1.k,(popC z S).1.i,(popC z S).1.nm,(popC z S).1.fs,(popC z S).1.id,(popC z S).1.pt,(popC z S).2.1,pm')∧QOK pm' (popC z S).2.2:=by
 obtain⟨pm1,e1,k1⟩:=evEmpty h z
 rcases look z 0 k1 with⟨h1,h2⟩ | ⟨u,x,c,h1,h2,h3,h4,_⟩
 ·refine⟨pm1,Ev.bO2 e1 ?_,by simpa [popC,h2] using k1⟩
  simp only[emptyC,popC,h2,if_true]
  exact .ret
 ·obtain⟨a,L,hx,r1,r2,r3,r4,r5,r6,r7⟩:=id h3
  subst hx
  rw[Nat.zero_add]at h1
  cases hq:c.q with
  | nil=>
   refine⟨pm1,Ev.bO2 e1 ?_,by simpa [popC,h2,hq] using k1⟩
   simp only[emptyC,popC,h2,hq,List.length_nil,Int.ofNat_eq_natCast,Int.natCast_zero,decide_true,if_true]
   exact .ret
  | cons v q=>
   obtain⟨f1,f2,f3,f4⟩:=pop1 hq r1 r2 r3 r4 r5 r6 r7
   have hl:c.q.length=q.length+1:=by rw[hq];rfl
   have hro:ROK (c.key,[.int .i64 c.room,.int .i64 (((a+1) % 8:Nat):Int),.int .i64 (q.length:Int)],L.set a zrow) {c with q:=q}:=
    ⟨(a+1) % 8,_,rfl,r1,r2,by omega,f2,by show (q.length:Int)≤c.room;omega,f3,f4⟩
   have h5:=h4 _ _ hro
   refine⟨_,Ev.bO2 e1 ?_,by simpa [popC,h2,hq] using h5⟩
   have hne:¬(((v::q).length:Nat):Int)=0:=by rw[←hq];omega
   simp only[emptyC,popC,h2,decide_eq_false hne,Bool.false_eq_true,if_false,ev99s h1,bSl,bO6t,hq]
   refine Ev.bO10 (.of fun n=>hq▸f1 n) ?_
   exact .ret
end Go.Proofs.Ytiiojajgajnhpaa
end
set_option linter.unusedVariables false
noncomputable section
namespace Go.Proofs.Ytiiojajgajnhpaa
open Go Go.AM
def F43 (n:Nat):Option (Unit):=
 some ()
theorem T43 (n:Nat):F43 n=some ()→
    Trip Try.prog inv 43 [] [] (.v (.c (.ptr (.loc 0) 0))) [] [.cells [.ow (.loc 1)],.pmap 3 6 8 ([]:List PRow) none]:=by
 intro h
 unfold F43 at h
 refine Trip.of tab_ok tab_one fol Try.func43 rfl (by kernel_rfl) rfl rfl rfl (fun M hM hI=>?_)
 try cbv
 refine seq_go ?_
 try cbv
 refine seq_go ?_
 try cbv
 refine⟨3,6,8,?_⟩
 try cbv
 skip
 refine fin_go ?_
 try cbv
 exact⟨[.loc 96,.loc 32],rfl,rfl,trivial,⟨rfl,⟨rfl,trivial⟩⟩,trivial⟩
def F49 (n:Nat) (z1:Int):Option (Int):=
 some z1
theorem T49 (n:Nat):∀⦃z1:Int⦄ ⦃r1:Int⦄,F49 n z1=some r1→
    Trip Try.prog inv 49 [.d (.int .i64 z1)] [] (.v (.d (.agg [.int .u8 1,.int .i64 r1,.str ByteArray.empty,.list true 6 [],.int .i64 0,.list false 1 []]))) [] []:=by
 intro z1 r1 h
 unfold F49 at h
 refine Trip.of tab_ok tab_one fol Try.func49 rfl (by kernel_rfl) rfl rfl rfl (fun M hM hI=>?_)
 try cbv
 refine seq_go ?_
 try cbv
 refine seq_go ?_
 try cbv
 obtain rfl:=Option.some.inj h
 refine fin_go ?_
 try cbv
 exact⟨[],rfl,rfl,trivial,trivial,trivial⟩
def L47_1:Nat→Bool→Bool→Bool→Bool→Int→Bool→Bool→Int→Int→Bool→Bool→(List PRow)→(List D)→Option (Bool)
 | 0,_,_,_,_,_,_,_,_,_,_,_,_,_=>none
 | n+1,b3,b6,b9,b11,z14,b19,b22,z25,z33,b46,b48,pm61,l62=>
  bO1 (F37 n (2:Int) (9:Int) pm61) fun pm63=>(if b3=true then (if b6=true then letB (!b9) fun b64=>(if b64=true then (if b11=true then (if z14=(5:Int)then (if b19=true then (if b22=true then (if z25=(6:Int)then (if z33=(7:Int)then letB (!b46) fun b65=>(if b65=true then (if b48=true then lenF l62 fun z66=>(if z66=(2:Int)then needF (0≤(0:Int)∧(0:Int).toNat<l62.length) (getN l62 ((0:Int).toNat) fun x67=>ds_t49 x67 fun z68 z69 s70 l71 z72 l73=>(if z69=(8:Int)then needF (0≤(1:Int)∧(1:Int).toNat<l62.length) (getN l62 ((1:Int).toNat) fun x74=>ds_t49 x74 fun z75 z76 s77 l78 z79 l80=>(if z76=(9:Int)then bO1 (F49 n (1:Int)) fun z81=>bO2 (F39 n (1:Int) (1:Int) z81 ByteArray.empty ([]:List D) (0:Int) ([]:List D) pm63) fun b82 pm83=>letB (!b82) fun b84=>(if b84=true then bO1 (F49 n (1:Int)) fun z85=>bO2 (F39 n (2:Int) (1:Int) z85 ByteArray.empty ([]:List D) (0:Int) ([]:List D) pm83) fun b86 pm87=>letB (!b86) fun b88=>some b88 else some false)else some false))else some false))else some false)else some false)else some false)else some false)else some false)else some false)else some false)else some false)else some false)else some false)else some false)else some false)
def F47 (n:Nat):Option (Bool):=
 bO0 (F43 n) (bO1 (F37 n (1:Int) (2:Int) ([]:List PRow)) fun pm1=>bO1 (F49 n (5:Int)) fun z2=>bO2 (F39 n (1:Int) (1:Int) z2 ByteArray.empty ([]:List D) (0:Int) ([]:List D) pm1) fun b3 pm4=>bO1 (F49 n (6:Int)) fun z5=>bO2 (F39 n (1:Int) (1:Int) z5 ByteArray.empty ([]:List D) (0:Int) ([]:List D) pm4) fun b6 pm7=>bO1 (F49 n (7:Int)) fun z8=>bO2 (F39 n (1:Int) (1:Int) z8 ByteArray.empty ([]:List D) (0:Int) ([]:List D) pm7) fun b9 pm10=>bO2 (F40 n (1:Int) pm10) fun b11 pm12=>bO8 (F38 n (1:Int) pm12) fun z13 z14 s15 l16 z17 l18 b19 pm20=>bO1 (F49 n (7:Int)) fun z21=>bO2 (F39 n (1:Int) (1:Int) z21 ByteArray.empty ([]:List D) (0:Int) ([]:List D) pm20) fun b22 pm23=>bO8 (F38 n (1:Int) pm23) fun z24 z25 s26 l27 z28 l29 b30 pm31=>bO8 (F38 n (1:Int) pm31) fun z32 z33 s34 l35 z36 l37 b38 pm39=>bO8 (F38 n (1:Int) pm39) fun z40 z41 s42 l43 z44 l45 b46 pm47=>bO2 (F41 n (1:Int) pm47) fun b48 pm49=>bO1 (F49 n (8:Int)) fun z50=>bO2 (F39 n (1:Int) (1:Int) z50 ByteArray.empty ([]:List D) (0:Int) ([]:List D) pm49) fun b51 pm52=>bO1 (F49 n (9:Int)) fun z53=>bO2 (F39 n (1:Int) (1:Int) z53 ByteArray.empty ([]:List D) (0:Int) ([]:List D) pm52) fun b54 pm55=>bS (F42 n (1:Int) pm55) (fun p59=>bO2 (some p59) fun pm56 l57=>L47_1 n b3 b6 b9 b11 z14 b19 b22 z25 z33 b46 b48 pm56 l57) (fun pm58=>L47_1 n b3 b6 b9 b11 z14 b19 b22 z25 z33 b46 b48 pm58 ([]:List D)))
theorem T47 (n:Nat):∀⦃r1:Bool⦄,F47 n=some r1→
    Trip Try.prog inv 47 [] [] (.v (.d (.bool r1))) [] []:=by
 intro r1 h
 unfold F47 at h
 refine Trip.of tab_ok tab_one fol Try.func47 rfl (by kernel_rfl) rfl rfl rfl (fun M hM hI=>?_)
 try cbv
 refine seq_go ?_
 try cbv
 refine seq_go ?_
 try cbv
 replace h:=bO0_inv h
 obtain⟨hr,h⟩:=h
 refine call_go rfl rfl ?_
 try cbv
 refine call_with hM hI [] (T43 _ hr) rfl (by simp) trivial trivial (by simp) ?_
 clear hr
 try cbv
 refine seq_go ?_
 try cbv
 replace h:=bO1_inv h
 obtain⟨pm1,hr,h⟩:=h
 refine call_go rfl rfl ?_
 try cbv
 refine call_with hM hI [.loc 32,.loc 33] (T37 _ hr) rfl (by simp) ⟨rfl,⟨rfl,trivial⟩⟩ ⟨trivial,⟨trivial,trivial⟩⟩ (by simp) ?_
 clear hr
 try cbv
 refine seq_go ?_
 try cbv
 replace h:=bO1_inv h
 obtain⟨z2,hr,h⟩:=h
 refine call_go rfl rfl ?_
 try cbv
 refine call_pure hM hI (T49 _ hr) rfl ?_
 clear hr
 try cbv
 replace h:=bO2_inv h
 obtain⟨b3,pm4,hr,h⟩:=h
 refine call_go rfl rfl ?_
 try cbv
 refine call_with hM hI [.loc 32,.loc 33] (T39 _ hr) rfl (by simp) ⟨rfl,⟨rfl,trivial⟩⟩ ⟨trivial,⟨trivial,trivial⟩⟩ (by simp) ?_
 clear hr
 try cbv
 replace h:=bO1_inv h
 obtain⟨z5,hr,h⟩:=h
 refine call_go rfl rfl ?_
 try cbv
 refine call_pure hM hI (T49 _ hr) rfl ?_
 clear hr
 try cbv
 replace h:=bO2_inv h
 obtain⟨b6,pm7,hr,h⟩:=h
 refine call_go rfl rfl ?_
 try cbv
 refine call_with hM hI [.loc 32,.loc 33] (T39 _ hr) rfl (by simp) ⟨rfl,⟨rfl,trivial⟩⟩ ⟨trivial,⟨trivial,trivial⟩⟩ (by simp) ?_
 clear hr
 try cbv
 replace h:=bO1_inv h
 obtain⟨z8,hr,h⟩:=h
 refine call_go rfl rfl ?_
 try cbv
 refine call_pure hM hI (T49 _ hr) rfl ?_
 clear hr
 try cbv
 replace h:=bO2_inv h
 obtain⟨b9,pm10,hr,h⟩:=h
 refine call_go rfl rfl ?_
 try cbv
 refine call_with hM hI [.loc 32,.loc 33] (T39 _ hr) rfl (by simp) ⟨rfl,⟨rfl,trivial⟩⟩ ⟨trivial,⟨trivial,trivial⟩⟩ (by simp) ?_
 clear hr
 try cbv
 refine seq_go ?_
 try cbv
 replace h:=bO2_inv h
 obtain⟨b11,pm12,hr,h⟩:=h
 refine call_go rfl rfl ?_
 try cbv
 refine call_with hM hI [.loc 32,.loc 33] (T40 _ hr) rfl (by simp) ⟨rfl,⟨rfl,trivial⟩⟩ ⟨trivial,⟨trivial,trivial⟩⟩ (by simp) ?_
 clear hr
 try cbv
 refine seq_go ?_
 try cbv
 replace h:=bO8_inv h
 obtain⟨z13,z14,s15,l16,z17,l18,b19,pm20,hr,h⟩:=h
 refine call_go rfl rfl ?_
 try cbv
 refine call_with hM hI [.loc 32,.loc 33] (T38 _ hr) rfl (by simp) ⟨rfl,⟨rfl,trivial⟩⟩ ⟨trivial,⟨trivial,trivial⟩⟩ (by simp) ?_
 clear hr
 try cbv
 refine seq_go ?_
 try cbv
 replace h:=bO1_inv h
 obtain⟨z21,hr,h⟩:=h
 refine call_go rfl rfl ?_
 try cbv
 refine call_pure hM hI (T49 _ hr) rfl ?_
 clear hr
 try cbv
 replace h:=bO2_inv h
 obtain⟨b22,pm23,hr,h⟩:=h
 refine call_go rfl rfl ?_
 try cbv
 refine call_with hM hI [.loc 32,.loc 33] (T39 _ hr) rfl (by simp) ⟨rfl,⟨rfl,trivial⟩⟩ ⟨trivial,⟨trivial,trivial⟩⟩ (by simp) ?_
 clear hr
 try cbv
 refine seq_go ?_
 try cbv
 replace h:=bO8_inv h
 obtain⟨z24,z25,s26,l27,z28,l29,b30,pm31,hr,h⟩:=h
 refine call_go rfl rfl ?_
 try cbv
 refine call_with hM hI [.loc 32,.loc 33] (T38 _ hr) rfl (by simp) ⟨rfl,⟨rfl,trivial⟩⟩ ⟨trivial,⟨trivial,trivial⟩⟩ (by simp) ?_
 clear hr
 try cbv
 refine seq_go ?_
 try cbv
 replace h:=bO8_inv h
 obtain⟨z32,z33,s34,l35,z36,l37,b38,pm39,hr,h⟩:=h
 refine call_go rfl rfl ?_
 try cbv
 refine call_with hM hI [.loc 32,.loc 33] (T38 _ hr) rfl (by simp) ⟨rfl,⟨rfl,trivial⟩⟩ ⟨trivial,⟨trivial,trivial⟩⟩ (by simp) ?_
 clear hr
 try cbv
 refine seq_go ?_
 try cbv
 replace h:=bO8_inv h
 obtain⟨z40,z41,s42,l43,z44,l45,b46,pm47,hr,h⟩:=h
 refine call_go rfl rfl ?_
 try cbv
 refine call_with hM hI [.loc 32,.loc 33] (T38 _ hr) rfl (by simp) ⟨rfl,⟨rfl,trivial⟩⟩ ⟨trivial,⟨trivial,trivial⟩⟩ (by simp) ?_
 clear hr
 try cbv
 refine seq_go ?_
 try cbv
 replace h:=bO2_inv h
 obtain⟨b48,pm49,hr,h⟩:=h
 refine call_go rfl rfl ?_
 try cbv
 refine call_with hM hI [.loc 32,.loc 33] (T41 _ hr) rfl (by simp) ⟨rfl,⟨rfl,trivial⟩⟩ ⟨trivial,⟨trivial,trivial⟩⟩ (by simp) ?_
 clear hr
 try cbv
 refine seq_go ?_
 try cbv
 replace h:=bO1_inv h
 obtain⟨z50,hr,h⟩:=h
 refine call_go rfl rfl ?_
 try cbv
 refine call_pure hM hI (T49 _ hr) rfl ?_
 clear hr
 try cbv
 replace h:=bO2_inv h
 obtain⟨b51,pm52,hr,h⟩:=h
 refine call_go rfl rfl ?_
 try cbv
 refine call_with hM hI [.loc 32,.loc 33] (T39 _ hr) rfl (by simp) ⟨rfl,⟨rfl,trivial⟩⟩ ⟨trivial,⟨trivial,trivial⟩⟩ (by simp) ?_
 clear hr
 try cbv
 refine seq_go ?_
 try cbv
 replace h:=bO1_inv h
 obtain⟨z53,hr,h⟩:=h
 refine call_go rfl rfl ?_
 try cbv
 refine call_pure hM hI (T49 _ hr) rfl ?_
 clear hr
 try cbv
 replace h:=bO2_inv h
 obtain⟨b54,pm55,hr,h⟩:=h
 refine call_go rfl rfl ?_
 try cbv
 refine call_with hM hI [.loc 32,.loc 33] (T39 _ hr) rfl (by simp) ⟨rfl,⟨rfl,trivial⟩⟩ ⟨trivial,⟨trivial,trivial⟩⟩ (by simp) ?_
 clear hr
 try cbv
 refine seq_join (T:=Nat×(List PRow)×List D) (fun t=>⟨[(0,.v (.d (.bool false))),(1,.v (.c (.ptr (.loc 32) 0))),(2,.v (.d (.bool b3))),(3,.v (.d (.bool b6))),(4,.v (.d (.bool b9))),(5,.v (.d (.bool b11))),(6,.v (.c (.ptr (.loc 800) 0))),(7,.v (.d (.bool b19))),(8,.v (.d (.bool b22))),(9,.v (.c (.ptr (.loc 1184) 0))),(11,.v (.c (.ptr (.loc 1440) 0))),(14,.v (.d (.bool b46))),(15,.v (.d (.bool b48))),(16,.v (.c (.ow (.loc 2112))))],[(.loc 32,.cells [.ow (.loc 33)]),(.loc 33,.pmap 3 6 8 t.2.1 none),(.loc 800,.cells [.d (.int .u8 z13),.d (.int .i64 z14),.d (.str s15),.d (.list true 6 l16),.d (.int .i64 z17),.d (.list false 1 l18)]),(.loc 1184,.cells [.d (.int .u8 z24),.d (.int .i64 z25),.d (.str s26),.d (.list true 6 l27),.d (.int .i64 z28),.d (.list false 1 l29)]),(.loc 1440,.cells [.d (.int .u8 z32),.d (.int .i64 z33),.d (.str s34),.d (.list true 6 l35),.d (.int .i64 z36),.d (.list false 1 l37)]),(.loc 2112,.tree .flat true 6 t.2.2 none)],2176⟩) (fun t=>t.1≤n∧L47_1 t.1 b3 b6 b9 b11 z14 b19 b22 z25 z33 b46 b48 t.2.1 t.2.2=some r1) ?_ ?_
 ·try cbv
  replace h:=bS_inv h
  rcases h with⟨p59,hr,h⟩ | ⟨pm58,hr,h⟩
  ·replace h:=bO2_inv h
   obtain⟨pm56,l57,hp,h⟩:=h
   obtain rfl:=Option.some.inj hp
   clear hp
   refine call_go rfl rfl ?_
   try cbv
   refine call_with hM hI [.loc 32,.loc 33] (T42 _ hr (fun r p n=>r= .v (.c (.ow (.loc 0)))∧p=[.cells [.ow (.ext 1)],.pmap 3 6 8 pm56 none]∧n=[.tree .flat true 6 l57 none]) ⟨rfl,rfl,rfl⟩:Trip _ _ _ _ _ (.v (.c (.ow (.loc 0)))) [.cells [.ow (.ext 1)],.pmap 3 6 8 pm56 none] [.tree .flat true 6 l57 none]) rfl (by simp) ⟨rfl,⟨rfl,trivial⟩⟩ ⟨trivial,⟨trivial,trivial⟩⟩ (by simp) ?_
   clear hr
   try cbv
   exact join_next (n,(pm56,l57)) [0,1,2,3,4,5,6,7,8,9,11,14,15,16] [.loc 32,.loc 33,.loc 800,.loc 1184,.loc 1440,.loc 2112] 2176 ⟨by omega,h⟩ (by cbv)
  refine call_go rfl rfl ?_
  try cbv
  refine call_with hM hI [.loc 32,.loc 33] (T42 _ hr (fun r p n=>r= .v (.c (.ow (.loc 0)))∧p=[.cells [.ow (.ext 1)],.pmap 3 6 8 pm58 none]∧n=[.tree .row true 6 [] none]) ⟨rfl,rfl,rfl⟩:Trip _ _ _ _ _ (.v (.c (.ow (.loc 0)))) [.cells [.ow (.ext 1)],.pmap 3 6 8 pm58 none] [.tree .row true 6 [] none]) rfl (by simp) ⟨rfl,⟨rfl,trivial⟩⟩ ⟨trivial,⟨trivial,trivial⟩⟩ (by simp) ?_
  clear hr
  try cbv
  refine join_nextG (n,(pm58,([]:List D))) [.flatten (.loc 2112)] [] [0,1,2,3,4,5,6,7,8,9,11,14,15,16] [.loc 32,.loc 33,.loc 800,.loc 1184,.loc 1440,.loc 2112] 2176 ⟨by omega,h⟩ ?_
  try cbv
  first | done | exact rfl | cbv
 clear h
 rintro⟨m1,pm61,l62⟩ ⟨hm1,h⟩
 replace hm1:m1≤n:=hm1
 obtain _ | m1:=m1
 ·replace h:L47_1 0 b3 b6 b9 b11 z14 b19 b22 z25 z33 b46 b48 pm61 l62=some r1:=h
  rw[L47_1]at h
  cases h
 replace h:L47_1 (m1+1) b3 b6 b9 b11 z14 b19 b22 z25 z33 b46 b48 pm61 l62=some r1:=h
 rw[L47_1]at h
 try cbv
 refine seq_go ?_
 try cbv
 replace h:=bO1_inv h
 obtain⟨pm63,hr,h⟩:=h
 refine call_go rfl rfl ?_
 try cbv
 refine call_with hM hI [.loc 32,.loc 33] (T37 _ hr) rfl (by simp) ⟨rfl,⟨rfl,trivial⟩⟩ ⟨trivial,⟨trivial,trivial⟩⟩ (by simp) ?_
 clear hr
 try cbv
 refine seq_go ?_
 try cbv
 cases b3
 ·replace h:=ite_f Bool.false_ne_true h
  try cbv
  obtain rfl:=Option.some.inj h
  refine fin_go ?_
  try cbv
  exact⟨[],rfl,rfl,trivial,trivial,trivial⟩
 replace h:=ite_t rfl h
 try cbv
 cases b6
 ·replace h:=ite_f Bool.false_ne_true h
  try cbv
  obtain rfl:=Option.some.inj h
  refine fin_go ?_
  try cbv
  exact⟨[],rfl,rfl,trivial,trivial,trivial⟩
 replace h:=ite_t rfl h
 try cbv
 replace h:=letB_inv h
 obtain⟨b64,hz,h⟩:=h
 refine⟨b64,not_eq' hz,?_⟩
 clear hz
 try cbv
 cases b64
 ·replace h:=ite_f Bool.false_ne_true h
  try cbv
  obtain rfl:=Option.some.inj h
  refine fin_go ?_
  try cbv
  exact⟨[],rfl,rfl,trivial,trivial,trivial⟩
 replace h:=ite_t rfl h
 try cbv
 cases b11
 ·replace h:=ite_f Bool.false_ne_true h
  try cbv
  obtain rfl:=Option.some.inj h
  refine fin_go ?_
  try cbv
  exact⟨[],rfl,rfl,trivial,trivial,trivial⟩
 replace h:=ite_t rfl h
 try cbv
 refine splitI (fun e=>?_) (fun e=>?_)
 rotate_left
 ·replace h:=ite_f e h
  clear e
  try cbv
  obtain rfl:=Option.some.inj h
  refine fin_go ?_
  try cbv
  exact⟨[],rfl,rfl,trivial,trivial,trivial⟩
 replace h:=ite_t e h
 clear e
 try cbv
 cases b19
 ·replace h:=ite_f Bool.false_ne_true h
  try cbv
  obtain rfl:=Option.some.inj h
  refine fin_go ?_
  try cbv
  exact⟨[],rfl,rfl,trivial,trivial,trivial⟩
 replace h:=ite_t rfl h
 try cbv
 cases b22
 ·replace h:=ite_f Bool.false_ne_true h
  try cbv
  obtain rfl:=Option.some.inj h
  refine fin_go ?_
  try cbv
  exact⟨[],rfl,rfl,trivial,trivial,trivial⟩
 replace h:=ite_t rfl h
 try cbv
 refine splitI (fun e=>?_) (fun e=>?_)
 rotate_left
 ·replace h:=ite_f e h
  clear e
  try cbv
  obtain rfl:=Option.some.inj h
  refine fin_go ?_
  try cbv
  exact⟨[],rfl,rfl,trivial,trivial,trivial⟩
 replace h:=ite_t e h
 clear e
 try cbv
 refine splitI (fun e=>?_) (fun e=>?_)
 rotate_left
 ·replace h:=ite_f e h
  clear e
  try cbv
  obtain rfl:=Option.some.inj h
  refine fin_go ?_
  try cbv
  exact⟨[],rfl,rfl,trivial,trivial,trivial⟩
 replace h:=ite_t e h
 clear e
 try cbv
 replace h:=letB_inv h
 obtain⟨b65,hz,h⟩:=h
 refine⟨b65,not_eq' hz,?_⟩
 clear hz
 try cbv
 cases b65
 ·replace h:=ite_f Bool.false_ne_true h
  try cbv
  obtain rfl:=Option.some.inj h
  refine fin_go ?_
  try cbv
  exact⟨[],rfl,rfl,trivial,trivial,trivial⟩
 replace h:=ite_t rfl h
 try cbv
 cases b48
 ·replace h:=ite_f Bool.false_ne_true h
  try cbv
  obtain rfl:=Option.some.inj h
  refine fin_go ?_
  try cbv
  exact⟨[],rfl,rfl,trivial,trivial,trivial⟩
 replace h:=ite_t rfl h
 try cbv
 replace h:=lenF_inv M h
 obtain⟨z66,hz,h⟩:=h
 refine⟨z66,hz,?_⟩
 clear hz
 try cbv
 refine splitI (fun e=>?_) (fun e=>?_)
 rotate_left
 ·replace h:=ite_f e h
  clear e
  try cbv
  obtain rfl:=Option.some.inj h
  refine fin_go ?_
  try cbv
  exact⟨[],rfl,rfl,trivial,trivial,trivial⟩
 replace h:=ite_t e h
 clear e
 try cbv
 replace h:=needF_inv h
 obtain⟨hn,h⟩:=h
 refine⟨(M.lock_iff _).2 hn,?_⟩
 clear hn
 try cbv
 replace h:=getN_inv h
 obtain⟨x67,hx,h⟩:=h
 replace h:=ds_t49_inv h
 obtain⟨z68,z69,s70,l71,z72,l73,rfl,h⟩:=h
 refine⟨_,hx,?_⟩
 clear hx
 try cbv
 refine splitI (fun e=>?_) (fun e=>?_)
 rotate_left
 ·replace h:=ite_f e h
  clear e
  try cbv
  obtain rfl:=Option.some.inj h
  refine fin_go ?_
  try cbv
  exact⟨[],rfl,rfl,trivial,trivial,trivial⟩
 replace h:=ite_t e h
 clear e
 try cbv
 replace h:=needF_inv h
 obtain⟨hn,h⟩:=h
 refine⟨(M.lock_iff _).2 hn,?_⟩
 clear hn
 try cbv
 replace h:=getN_inv h
 obtain⟨x74,hx,h⟩:=h
 replace h:=ds_t49_inv h
 obtain⟨z75,z76,s77,l78,z79,l80,rfl,h⟩:=h
 refine⟨_,hx,?_⟩
 clear hx
 try cbv
 refine splitI (fun e=>?_) (fun e=>?_)
 rotate_left
 ·replace h:=ite_f e h
  clear e
  try cbv
  obtain rfl:=Option.some.inj h
  refine fin_go ?_
  try cbv
  exact⟨[],rfl,rfl,trivial,trivial,trivial⟩
 replace h:=ite_t e h
 clear e
 try cbv
 replace h:=bO1_inv h
 obtain⟨z81,hr,h⟩:=h
 refine call_go rfl rfl ?_
 try cbv
 refine call_pure hM hI (T49 _ hr) rfl ?_
 clear hr
 try cbv
 replace h:=bO2_inv h
 obtain⟨b82,pm83,hr,h⟩:=h
 refine call_go rfl rfl ?_
 try cbv
 refine call_with hM hI [.loc 32,.loc 33] (T39 _ hr) rfl (by simp) ⟨rfl,⟨rfl,trivial⟩⟩ ⟨trivial,⟨trivial,trivial⟩⟩ (by simp) ?_
 clear hr
 try cbv
 replace h:=letB_inv h
 obtain⟨b84,hz,h⟩:=h
 refine⟨b84,not_eq' hz,?_⟩
 clear hz
 try cbv
 cases b84
 ·replace h:=ite_f Bool.false_ne_true h
  try cbv
  obtain rfl:=Option.some.inj h
  refine fin_go ?_
  try cbv
  exact⟨[],rfl,rfl,trivial,trivial,trivial⟩
 replace h:=ite_t rfl h
 try cbv
 replace h:=bO1_inv h
 obtain⟨z85,hr,h⟩:=h
 refine call_go rfl rfl ?_
 try cbv
 refine call_pure hM hI (T49 _ hr) rfl ?_
 clear hr
 try cbv
 replace h:=bO2_inv h
 obtain⟨b86,pm87,hr,h⟩:=h
 refine call_go rfl rfl ?_
 try cbv
 refine call_with hM hI [.loc 32,.loc 33] (T39 _ hr) rfl (by simp) ⟨rfl,⟨rfl,trivial⟩⟩ ⟨trivial,⟨trivial,trivial⟩⟩ (by simp) ?_
 clear hr
 try cbv
 replace h:=letB_inv h
 obtain⟨b88,hz,h⟩:=h
 refine⟨b88,not_eq' hz,?_⟩
 clear hz
 try cbv
 obtain rfl:=Option.some.inj h
 refine fin_go ?_
 try cbv
 exact⟨[],rfl,rfl,trivial,trivial,trivial⟩
end Go.Proofs.Ytiiojajgajnhpaa
end
set_option linter.unusedVariables false
noncomputable section
namespace Go.Proofs.Ytiiojajgajnhpaa
open Go Go.AM
theorem Ev.bSl {α β γ:Type}{A:Nat→Option (α ⊕ β)}{a:α}{k1:Nat→α→Option γ}{k2:Nat→β→Option γ}{r:γ}(ha:Ev A (.inl a)) (hk:Ev (fun n=>k1 n a) r):Ev (fun n=>bS (A n) (k1 n) (k2 n)) r:=by
 obtain⟨N,h⟩:=ha
 obtain⟨M,h'⟩:=hk
 refine⟨N+M,fun n hn=>?_⟩
 show bS (A n) (k1 n) (k2 n)=some r
 rw[h n (by omega)]
 exact h' n (by omega)
theorem Ev.bSr {α β γ:Type}{A:Nat→Option (α ⊕ β)}{b:β}{k1:Nat→α→Option γ}{k2:Nat→β→Option γ}{r:γ}(ha:Ev A (.inr b)) (hk:Ev (fun n=>k2 n b) r):Ev (fun n=>bS (A n) (k1 n) (k2 n)) r:=by
 obtain⟨N,h⟩:=ha
 obtain⟨M,h'⟩:=hk
 refine⟨N+M,fun n hn=>?_⟩
 show bS (A n) (k1 n) (k2 n)=some r
 rw[h n (by omega)]
 exact h' n (by omega)
theorem Sm.nil:Sm []:=.mk (by simp) (by simp) (by simp)
def wv (i:Int):VV:=⟨1,i,ByteArray.empty,[],0,[]⟩
theorem wv_VS {i:Int}(h:(Lit.int .i64 i).wf=true):VS (wv i):=⟨⟨rfl,h,(show ByteArray.empty.size≤maxLen by decide),.nil,rfl,.nil⟩,by simp[wv],.nil⟩
theorem ev49 (z:Int):Ev (fun n=>F49 n z) z:=.of fun n=>rfl
theorem evMk {pm:List PRow}{S S':List Ch}(h:QOK pm S) (z room:Int) (e:makeC z room S=S'):∃pm',Ev (fun n=>F37 n z room pm) pm'∧QOK pm' S':=e▸evMake h z room
theorem evPu {pm:List PRow}{S:List Ch}(h:QOK pm S) (z:Int) {v:VV}(hv:VS v) {b:Bool}{S':List Ch}(e:pushC z v S=(b,S')):∃pm',Ev (fun n=>F39 n z v.k v.i v.nm v.fs v.id v.pt pm) (b,pm')∧QOK pm' S':=by
 have:=evPush h z hv
 rw[e]at this
 exact this
theorem evPo {pm:List PRow}{S:List Ch}(h:QOK pm S) (z:Int) {v:VV}{b:Bool}{S':List Ch}(e:popC z S=(v,b,S')):∃pm',Ev (fun n=>F38 n z pm) (v.k,v.i,v.nm,v.fs,v.id,v.pt,b,pm')∧QOK pm' S':=by
 have:=evPop h z
 rw[e]at this
 exact this
theorem evFu {pm:List PRow}{S:List Ch}(h:QOK pm S) (z:Int) {b:Bool}(e:fullC z S=b):∃pm',Ev (fun n=>F40 n z pm) (b,pm')∧QOK pm' S:=e▸evFull h z
theorem evEm {pm:List PRow}{S:List Ch}(h:QOK pm S) (z:Int) {b:Bool}(e:emptyC z S=b):∃pm',Ev (fun n=>F41 n z pm) (b,pm')∧QOK pm' S:=e▸evEmpty h z
theorem evOut (v:VV) {l:List D}(hl:l.length≤1000):Ev (fun n=>F42r0x1 n v.k v.i v.nm v.fs v.id v.pt l) (l++[v.row]):=by
 have hM:10000<maxLen:=by decide
 refine .of fun n=>?_
 unfold F42r0x1
 have hb:l.length+[zrow].length≤maxLen∧(l.length+[zrow].length)*88≤140737488355328:=by simp only[List.length_cons,List.length_nil];omega
 have ha:∀k:List D→Option (List D),appF 88 l [.agg [.int .u8 0,.int .i64 0,.str ByteArray.empty,.list true 6 [],.int .i64 0,.list false 1 []]] k=k (l++[zrow]):=fun k=>appF_ok hb
 have e1:((l.length:Nat):Int).toNat=l.length:=by omega
 simp only[lenF,ha,e1]
 rw[need_pos (by simp),getN_some (x:=zrow) (by simp)]
 show setF _ _ _ _=_
 unfold setF
 simp[VV.row]
theorem evAll {room:Int}(r1:1≤room) (r2:room≤8):∀(q:List VV) (a:Nat) (L acc:List D),a<8→L.length=8→(q.length:Int)≤room→(∀(i:Nat) v,q[i]?=some v→L[(a+i) % 8]?=some v.row)→(∀v∈q,VS v)→acc.length+q.length≤8→
  ∃(a':Nat) (L':List D),a'<8∧L'.length=8∧Ev (fun n=>L142_1 n room (a:Int) (q.length:Int) L acc) (room,(a':Int),0,L',acc++q.map VV.row)
 | [],a,L,acc,h1,h2,h3,h4,h5,h6=>by
  refine⟨a,L,h1,h2,.succ ?_⟩
  simp only[L142_1,List.length_nil,Int.natCast_zero,Int.lt_irrefl,if_false]
  exact .succ (by simp only[L142_2,Bool.false_eq_true,if_false,List.map_nil,List.append_nil];exact .ret)
 | v::q,a,L,acc,h1,h2,h3,h4,h5,h6=>by
  obtain⟨f1,f2,f3,f4⟩:=pop1 (c:=⟨0,room,v::q⟩) rfl r1 r2 h1 h2 h3 h4 h5
  have hl:(v::q).length=q.length+1:=rfl
  obtain⟨a',L',k1,k2,k3⟩:=evAll r1 r2 q ((a+1) % 8) (L.set a zrow) (acc++[v.row]) (by omega) f2 (by omega) f3 f4 (by simp only[List.length_append,List.length_cons,List.length_nil];omega)
  refine⟨a',L',k1,k2,.succ ?_⟩
  simp only[L142_1,if_pos (show (0:Int)<((v::q).length:Int)by rw[hl];omega)]
  refine .succ ?_
  simp only[L142_2,if_true]
  refine Ev.bO10 (.of fun n=>f1 n) ?_
  refine Ev.bO1 (evOut v (by omega)) ?_
  rw[List.append_assoc,List.singleton_append]at k3
  exact k3
theorem evDropN {pm:List PRow}{S:List Ch}(h:QOK pm S) {z:Int}(hg:getC z S=none):Ev (fun n=>F42 n z pm) (.inr pm):=by
 rcases look z 0 h with⟨h1,h2⟩ | ⟨u,x,c,h1,h2,h3,h4,_⟩
 ·refine .of fun n=>?_
  unfold F42
  rw[ev99n h1,bSr]
 ·rw[hg]at h2;cases h2
theorem evDropS {pm:List PRow}{S:List Ch}(h:QOK pm S) {z:Int}{c:Ch}(hg:getC z S=some c):∃pm',Ev (fun n=>F42 n z pm) (.inl (pm',c.q.map VV.row))∧QOK pm' (delC z S):=by
 rcases look z 0 h with⟨h1,h2⟩ | ⟨u,x,c',h1,h2,h3,h4,_⟩
 ·rw[hg]at h2;cases h2
 ·rw[hg]at h2
  cases h2
  obtain⟨a,L,hx,r1,r2,r3,r4,r5,r6,r7⟩:=id h3
  subst hx
  rw[Nat.zero_add]at h1
  obtain⟨a',L',k1,k2,k3⟩:=evAll r1 r2 c.q a L [] r3 r4 r5 r6 r7 (by simp;omega)
  have hro:ROK (c.key,[.int .i64 c.room,.int .i64 (a':Int),.int .i64 0],L') {c with q:=[]}:=⟨a',L',rfl,r1,r2,k1,k2,by show (0:Int)≤c.room;omega,by simp,by simp⟩
  have h5:=h4 _ _ hro
  have hk:=getC_key hg
  rcases look z 0 h5 with⟨g1,g2⟩ | ⟨u',x',d,g1,g2,g3,_,g5⟩
  ·rw[getC_upd (y:=z) (by exact hk) hg,if_pos rfl]at g2;cases g2
  ·rw[delC_upd (by exact hk) hg]at g5
   refine⟨_,?_,g5⟩
   have e1:∀n,F42 n z pm=bO5 (F142 n c.room (a:Int) (c.q.length:Int) L) fun z17 z18 z19 l20 l21=>setPF pm u [.int .i64 z17,.int .i64 z18,.int .i64 z19] l20 fun pm22=>delPF z pm22 fun pm23=>some (.inl (pm23,l21)):=fun n=>by
    unfold F42
    rw[ev99s h1,bSl,bO6t]
    rfl
   refine Ev.congr (A:=fun n=>bO5 (F142 n c.room (a:Int) (c.q.length:Int) L) fun z17 z18 z19 l20 l21=>setPF pm u [.int .i64 z17,.int .i64 z18,.int .i64 z19] l20 fun pm22=>delPF z pm22 fun pm23=>some (.inl (pm23,l21))) (Ev.bO5 k3 (.of fun n=>?_)) (fun n=>(e1 n).symm)
   show (some (Sum.inl (eraseP z (pm.modify u fun r=>(r.1,[.int .i64 c.room,.int .i64 (a':Int),.int .i64 0],L')),[]++c.q.map VV.row)):Option ((List PRow×List D) ⊕ List PRow))=_
   unfold eraseP
   rw[g1]
   simp
theorem ev_awake:Ev (fun n=>F47 n) true:=by
 have w (i:Int) (h:(Lit.int .i64 i).wf=true):=wv_VS h
 obtain⟨p1,e1,k1⟩:=evMk (pm:=[]) (S:=[]) (S':=[⟨1,2,[]⟩]) trivial 1 2 (by simp[makeC,getC])
 obtain⟨p2,e2,k2⟩:=evPu k1 1 (w 5 rfl) (b:=true) (S':=[⟨1,2,[wv 5]⟩]) (by simp[pushC,getC,updC])
 obtain⟨p3,e3,k3⟩:=evPu k2 1 (w 6 rfl) (b:=true) (S':=[⟨1,2,[wv 5,wv 6]⟩]) (by simp[pushC,getC,updC])
 obtain⟨p4,e4,k4⟩:=evPu k3 1 (w 7 rfl) (b:=false) (S':=[⟨1,2,[wv 5,wv 6]⟩]) (by simp[pushC,getC])
 obtain⟨p5,e5,k5⟩:=evFu k4 1 (b:=true) (by simp[fullC,getC])
 obtain⟨p6,e6,k6⟩:=evPo k5 1 (v:=wv 5) (b:=true) (S':=[⟨1,2,[wv 6]⟩]) (by simp[popC,getC,updC])
 obtain⟨p7,e7,k7⟩:=evPu k6 1 (w 7 rfl) (b:=true) (S':=[⟨1,2,[wv 6,wv 7]⟩]) (by simp[pushC,getC,updC])
 obtain⟨p8,e8,k8⟩:=evPo k7 1 (v:=wv 6) (b:=true) (S':=[⟨1,2,[wv 7]⟩]) (by simp[popC,getC,updC])
 obtain⟨p9,e9,k9⟩:=evPo k8 1 (v:=wv 7) (b:=true) (S':=[⟨1,2,[]⟩]) (by simp[popC,getC,updC])
 obtain⟨p10,e10,k10⟩:=evPo k9 1 (v:=zeroV) (b:=false) (S':=[⟨1,2,[]⟩]) (by simp[popC,getC])
 obtain⟨p11,e11,k11⟩:=evEm k10 1 (b:=true) (by simp[emptyC,getC])
 obtain⟨p12,e12,k12⟩:=evPu k11 1 (w 8 rfl) (b:=true) (S':=[⟨1,2,[wv 8]⟩]) (by simp[pushC,getC,updC])
 obtain⟨p13,e13,k13⟩:=evPu k12 1 (w 9 rfl) (b:=true) (S':=[⟨1,2,[wv 8,wv 9]⟩]) (by simp[pushC,getC,updC])
 obtain⟨p14,e14,k14⟩:=evDropS k13 (z:=1) (c:=⟨1,2,[wv 8,wv 9]⟩) (by simp[getC])
 rw[show delC 1 [(⟨1,2,[wv 8,wv 9]⟩:Ch)]=[]by simp[delC]]at k14
 obtain⟨p15,e15,k15⟩:=evMk k14 2 9 (S':=[]) (by simp[makeC,getC])
 obtain⟨p16,e16,k16⟩:=evPu k15 1 (w 1 rfl) (b:=false) (S':=[]) (by simp[pushC,getC])
 obtain⟨p17,e17,k17⟩:=evPu k16 2 (w 1 rfl) (b:=false) (S':=[]) (by simp[pushC,getC])
 have f43:∀n,F43 n=some ():=fun n=>rfl
 have fin:∀l:List D,l[0]?=some (wv 8).row→l[1]?=some (wv 9).row→(l.length:Int)=2→Ev (fun n=>L47_1 n true true false true (5:Int) true true (6:Int) (7:Int) false true p14 l) true:=by
  intro l l0 l1 ln
  refine .succ ?_
  simp only[L47_1]
  refine Ev.bO1 e15 ?_
  have h0:(0:Int)≤(0:Int)∧(0:Int).toNat<l.length:=by refine⟨Int.le_refl _,?_⟩;show 0<l.length;omega
  have h1:(0:Int)≤(1:Int)∧(1:Int).toNat<l.length:=by refine⟨by decide,?_⟩;show 1<l.length;omega
  simp only[if_true,letB,Bool.not_false,Bool.false_eq_true,if_false,lenF,ln,need_pos h0,need_pos h1]
  simp only[show (0:Int).toNat=0 from rfl,show (1:Int).toNat=1 from rfl,getN_some l0,getN_some l1,ds25,wv,if_true]
  refine Ev.bO1 (ev49 1) ?_
  refine Ev.bO2 e16 ?_
  simp only[Bool.not_false,if_true]
  refine Ev.bO1 (ev49 1) ?_
  refine Ev.bO2 e17 ?_
  exact .ret
 unfold F47
 refine Ev.bO0 (.of f43) (Ev.bO1 e1 (Ev.bO1 (ev49 5) (Ev.bO2 e2 (Ev.bO1 (ev49 6) (Ev.bO2 e3 (Ev.bO1 (ev49 7) (Ev.bO2 e4 (Ev.bO2 e5 (Ev.bO8 e6 (Ev.bO1 (ev49 7) (Ev.bO2 e7 (Ev.bO8 e8 (Ev.bO8 e9 (Ev.bO8 e10 (Ev.bO2 e11 (Ev.bO1 (ev49 8) (Ev.bO2 e12 (Ev.bO1 (ev49 9) (Ev.bO2 e13 ?_)))))))))))))))))))
 exact Ev.bSl e14 (fin _ rfl rfl rfl)
end Go.Proofs.Ytiiojajgajnhpaa
end
