/- Part of a proof. No condition. (Part 4.) -/
import Derived.DataReads
import Derived.Test.YtiiojajgajnhpaaProg
import Derived.KernelRfl
import Derived.Test.YtiiojajgajnhpaaCpyC
set_option linter.unusedVariables false
set_option linter.unusedSimpArgs false
namespace Go.AM
open Go Go.RowKit
theorem draw_P {P:Program}{ti:Types}(hti:TIok P ti) (h1:TIone ti) (hm:P.follows .mixedOrders=true):∀C:Cx,C.P=P→DrawOK C (execDraw ti C.M C.nt):=fun C hC=>by
 have hti':TIok C.P ti:=by rw[hC];exact hti
 have hm':C.P.follows .mixedOrders=true:=by rw[hC];exact hm
 exact draw_ok hti' h1 hm'
theorem TripK.of {P:Program}{I:Inv}{ti:Types}(hti:TIok P ti) (h1:TIone ti) (hm:P.follows .mixedOrders=true) {f:FuncId}{fn:Func}{c:Code}(hf:P.funcs[f]?=some fn) (hb:fn.body=some c)
  (hname:(fn.name== "runtime.NumGoroutine")=false) {args:List V1} {pre:List AObj} {Q:AV→List AObj→List AObj→Prop} {nt:Nat} (hnt:fn.ntmps=nt) (hargs:Nat.ble args.length nt=true) {rs:List ResultVar} (hrs:fn.results.toList=rs)
  (hx:∀M:Mach,M.P=P→M.I=I→exec M ti nt (execDraw ti M nt) c ⟨slotsOf args 0,extsOf pre 0,0⟩ fun e σ=>match e with
   | .exit _=>False
   | .normal=>∃res post new,Q res post new∧Fin' ti rs σ res post new
   | .ret=>∃res post new,Q res post new∧Fin' ti rs σ res post new):TripK P I f args pre Q:=by
 subst hnt
 subst hrs
 exact TripK.intro (fun M nt=>execDraw ti M nt) hti h1 (draw_P hti h1 hm) hf hb hname (Nat.le_of_ble_eq_true hargs) hx
theorem Trip.of {P:Program}{I:Inv}{ti:Types}(hti:TIok P ti) (h1:TIone ti) (hm:P.follows .mixedOrders=true) {f:FuncId}{fn:Func}{c:Code}(hf:P.funcs[f]?=some fn) (hb:fn.body=some c)
  (hname:(fn.name== "runtime.NumGoroutine")=false) {args:List V1} {pre post new:List AObj} {res:AV} {nt:Nat} (hnt:fn.ntmps=nt) (hargs:Nat.ble args.length nt=true) {rs:List ResultVar} (hrs:fn.results.toList=rs)
  (hx:∀M:Mach,M.P=P→M.I=I→exec M ti nt (execDraw ti M nt) c ⟨slotsOf args 0,extsOf pre 0,0⟩ fun e σ=>match e with
   | .exit _=>False
   | .normal=>∃r p n,(r=res∧p=post∧n=new)∧Fin' ti rs σ r p n
   | .ret=>∃r p n,(r=res∧p=post∧n=new)∧Fin' ti rs σ r p n):Trip P I f args pre res post new:=
 TripK.of hti h1 hm hf hb hname hnt hargs hrs hx
theorem fin_go {ti:Types}{rs:List ResultVar}{σ:St}{res:AV}{post new:List AObj}(h:withRes ti σ rs fun xs=>∃nm:List Id,nodupB nm=true∧mkRes xs=res.ren (renN nm σ.next)∧postOK (getH σ.heap) (renN nm σ.next) post 0∧newOK (getH σ.heap) (renN nm σ.next) new nm∧handOK post nm):
  ∃r p n,(r=res∧p=post∧n=new)∧Fin' ti rs σ r p n:=⟨_,_,_,⟨rfl,rfl,rfl⟩,[],h⟩
theorem TripK.at {P:Program}{I:Inv}{M:Mach}{f:FuncId}{args:List V1}{pre:List AObj}{Q:AV→List AObj→List AObj→Prop}(hP:M.P=P) (hI:M.I=I) (h:TripK P I f args pre Q):TripK M.P M.I f args pre Q:=by rw[hP,hI];exact h
theorem RoundK.of {P:Program}{I:Inv}{M:Mach}(hP:M.P=P) (hI:M.I=I) {ti:Types}(hti:TIok P ti) (h1:TIone ti) (hm:P.follows .mixedOrders=true) {r:RF}{sl:List (Nat×AV)}{args:List V1}{pre:List AObj}{Q:Jump→List AObj→List AObj→Prop}{nt:Nat}{ps:List Tmp}{ca cb:Code}
  (hnt:r.nt=nt) (hpl:r.params.toList=ps) (ha:r.assign=ca) (hb:r.body=cb) (hlen:args.length=ps.length) (hps:allB (fun p=>Nat.blt p nt) ps=true)
  (hx:∀M:Mach,M.P=P→M.I=I→exec M ti nt (execDraw ti M nt) ca ⟨putPs ps args sl,extsOf pre 0,0⟩ fun e σ=>match e with
   | .normal=>exec M ti nt (execDraw ti M nt) cb σ fun e σ=>∃post new,Q (jumpOf e) post new∧FinR σ post new
   | _=>False):RoundK M.P M.I r sl args pre Q:=by
 subst hnt
 subst hpl
 subst ha
 subst hb
 rw[hP,hI]
 exact RoundK.intro (fun M nt=>execDraw ti M nt) hti h1 (draw_P hti h1 hm) (by simpa using hlen) hps hx
section
variable {M:Mach}{A:Bool→Prop}
theorem splitI {a b:Int}(h1:a=b→A true) (h0:a≠b→A false):M.split (M.eqI a b) A:=by
 rw[M.split_iff,M.eqI_eq]
 by_cases h:a=b
 ·rw[beq_iff_eq.2 h];exact h1 h
 ·rw[beq_eq_false_iff_ne.2 h];exact h0 h
theorem splitL {a b:Int}(h1:a<b→A true) (h0:b≤a→A false):M.split (M.ltI a b) A:=by
 rw[M.split_iff,M.ltI_eq]
 by_cases h:a<b
 ·rw[decide_eq_true h];exact h1 h
 ·rw[decide_eq_false h];exact h0 (by omega)
theorem splitLe {a b:Int}(h1:a≤b→A true) (h0:b<a→A false):M.split (M.leI a b) A:=by
 rw[M.split_iff,M.leI_eq]
 by_cases h:a≤b
 ·rw[decide_eq_true h];exact h1 h
 ·rw[decide_eq_false h];exact h0 (by omega)
theorem splitS {a b:ByteArray}(h1:(a.toList==b.toList)=true→A true) (h0:(a.toList==b.toList)=false→A false):M.split (M.eqS a b) A:=by
 rw[M.split_iff,M.eqS_eq]
 cases h:(a.toList==b.toList)
 ·exact h0 h
 ·exact h1 h
end
section
variable {M:Mach}{f:FuncId}{args:List V1}{fresh:Nat}{h:Heap}{k:Out→Prop}{targs:List V1}{res:AV}
theorem call_pure {P:Program}{I:Inv}(hP:M.P=P) (hI:M.I=I) (ht:Trip P I f targs [] res [] []) (he:args=targs.map (V1.ren (renM [] fresh))) (hk:k ⟨res.ren (renM [] fresh),[],[]⟩):
  M.lock fun _=>outCall M.P M.I f args fresh h k:=
 (M.lock_iff _).2 ⟨[],targs,[],res,[],[],hP▸hI▸ht,he,rfl,List.nodup_nil,by simp,trivial,by simp,hk⟩
theorem opOut_call {ti:Types}{o:Oper}{c:Call}{x:Operand}{s:Slots}(ho:o.op= .call c) (hc:c.callee= .value x) (hk:withCl h (fun h'=>opOut0 M ti o fresh s h') k):opOut M ti o fresh s h k:=by
 unfold opOut
 rw[ho]
 simp only[]
 rw[hc]
 exact .inr (.inl hk)
theorem call_go {ti:Types}{o:Oper}{c:Call}{x:Operand}{s:Slots}{X:Prop}(ho:o.op= .call c) (hc:c.callee= .value x) (hk:opOut0 M ti o fresh s h k):M.lock fun _=>opOut M ti o fresh s h k∨X:=
 (M.lock_iff _).2<| .inl<| opOut_call ho hc ⟨[],hk⟩
def preOK (h:Heap) (r:Id→Id):List Id→List AObj→Prop
 | [],[]=>True
 | i::m,o::pre=>h i=some (o.ren r)∧preOK h r m pre
 | _,_=>False
theorem preOK_get {r:Id→Id}:∀{m:List Id}{pre:List AObj},preOK h r m pre→m.length=pre.length∧∀(j:Nat) i o,m[j]?=some i→pre[j]?=some o→h i=some (o.ren r)
 | [],[],_=>⟨rfl,by simp⟩
 | i::m,o::pre,hp=>by
  obtain⟨h1,h2⟩:=preOK_get hp.2
  refine⟨by simp[h1],fun j i' o' hi ho=>?_⟩
  match j with
  | 0=>simp at hi ho;subst hi;subst ho;exact hp.1
  | j+1=>simp at hi ho;exact h2 j i' o' hi ho
 | [],_::_,hp=>hp.elim
 | _::_,[],hp=>hp.elim
theorem call_with {P:Program}{I:Inv}(hP:M.P=P) (hI:M.I=I) (m:List Id) {pre post new:List AObj}(ht:Trip P I f targs pre res post new) (he:args=targs.map (V1.ren (renM m fresh))) (hm:m.Nodup)
  (hpre:preOK h (renM m fresh) m pre) (hkd:allKinds pre post) (hn:new.length≤31) (hk:k ⟨res.ren (renM m fresh),m,wrM m (renM m fresh) post++wrNew fresh (renM m fresh) 0 new⟩):
  M.lock fun _=>outCall M.P M.I f args fresh h k:=
 (M.lock_iff _).2 ⟨m,targs,pre,res,post,new,hP▸hI▸ht,he,(preOK_get hpre).1,hm,(preOK_get hpre).2,hkd,hn,hk⟩
end
theorem drawn {M:Mach}{p:Unit→Prop}{K:Prop}(hd:p ()) (hk:K):M.lock p∧K:=⟨(M.lock_iff _).2 hd,hk⟩
theorem loop_inv {M:Mach}{ex:St→(AExit→St→Prop)→Prop}{σ:St}{K:AExit→St→Prop}(ks:List Nat) (is:List Id) (nx:Nat) {T:Type}(S:T→St) (I:T→Prop) (m:T→Nat) (t0:T)
  (hI:I t0) (h0:keep ks is nx σ (·=S t0))
  (hr:∀t,I t→ex (S t) fun e σ2=>match e with
   | .normal=>∃n' σ3,n'<m t∧Weak σ2 σ3∧∃t',I t'∧n'=m t'∧σ3=S t'
   | .exit id=>K (.exit id) σ2
   | .ret=>K .ret σ2):M.lock fun _=>loopP ex σ K∨∃n,unrollP ex K n σ:=by
 refine (M.lock_iff _).2<| .inl ⟨fun n σ=>∃t,I t∧n=m t∧σ=S t,m t0,?_,?_⟩
 ·obtain⟨σ',hw,e⟩:=keep_weak h0
  exact⟨σ',hw,t0,hI,rfl,e⟩
 ·rintro n σ1 ⟨t,h1,rfl,rfl⟩
  exact hr t h1
theorem loop_invT {M:Mach}{ex:St→(AExit→St→Prop)→Prop}{σ:St}{K:AExit→St→Prop}(tr:List TokReq) (ks:List Nat) (is:List Id) (nx:Nat) {T:Type}(S:T→St) (I:T→Prop) (m:T→Nat) (t0:T)
  (hI:I t0) (h0:tokAll (fun σ=>keep ks is nx σ (·=S t0)) tr σ)
  (hr:∀t,I t→ex (S t) fun e σ2=>match e with
   | .normal=>∃n' σ3,n'<m t∧Weak σ2 σ3∧∃t',I t'∧n'=m t'∧σ3=S t'
   | .exit id=>K (.exit id) σ2
   | .ret=>K .ret σ2):M.lock fun _=>loopP ex σ K∨∃n,unrollP ex K n σ:=by
 refine (M.lock_iff _).2<| .inl ⟨fun n σ=>∃t,I t∧n=m t∧σ=S t,m t0,?_,?_⟩
 ·obtain⟨σ1,hw1,h1⟩:=tokAll_weak h0
  obtain⟨σ',hw,e⟩:=keep_weak h1
  exact⟨σ',Weak.trans hw1 hw,t0,hI,rfl,e⟩
 ·rintro n σ1 ⟨t,h1,rfl,rfl⟩
  exact hr t h1
theorem loop_next {T:Type}{m:T→Nat}{I:T→Prop}{S:T→St}{σ2:St}{k:Nat}(t':T) (ks:List Nat) (is:List Id) (nx:Nat) (hI:I t') (hm:m t'<k) (hk:keep ks is nx σ2 (·=S t')):
  ∃n' σ3,n'<k∧Weak σ2 σ3∧∃t',I t'∧n'=m t'∧σ3=S t':=by
 obtain⟨σ',hw,e⟩:=keep_weak hk
 exact⟨m t',σ',hm,hw,t',hI,rfl,e⟩
section
variable {M:Mach}{L L':List D}{N i:Int}(hN:0≤N∧L.length=N.toNat)
include hN
end
end Go.AM
namespace Go.AM
open Go Go.RowKit
inductive Shape (ti:Types):TypeId→List D→Prop where
 | bool {t x} (b:Bool) (h:ti t=some x) (hd:x.desc= .bool):Shape ti t [.bool b]
 | int {t x k} (n:Int) (h:ti t=some x) (hd:x.desc= .int k) (hw:(Lit.int k n).wf=true):Shape ti t [.int k n]
 | str {t x} (s:ByteArray) (h:ti t=some x) (hd:x.desc= .string) (hs:s.size≤maxLen):Shape ti t [.str s]
 | slice {t x e y} (rows:List D) (h:ti t=some x) (hd:x.desc= .slice e) (he:ti e=some y) (hl:rows.length≤maxLen)
   (hf:∀r∈rows,r.fits (rowD y.desc) y.size) (hr:∀r∈rows,Shape ti e r.cells):Shape ti t [.list (rowD y.desc) y.size rows]
 | struct {t x fs} (ds:List D) (h:ti t=some x) (hd:x.desc= .struct fs) (hl:ds.length=x.size) (hg:∀c∈ds,c.isAgg=false)
   (hr:∀f∈fs.toList,∀y,ti f.type=some y→Shape ti f.type ((ds.drop f.offset).take y.size)):Shape ti t ds
def chain (ti:Types):Nat→List Field→Option Nat
 | off,[]=>some off
 | off,f::r=>if f.offset=off then match ti f.type with
   | some y=>chain ti (off+y.size) r
   | none=>none
  else none
theorem chain_le {ti:Types}:∀{fs:List Field}{off tot:Nat},chain ti off fs=some tot→off≤tot∧∀f∈fs,off≤f.offset∧∃y,ti f.type=some y
 | [],off,tot,h=>by simp[chain]at h;subst h;exact⟨Nat.le_refl _,by simp⟩
 | f::fs,off,tot,h=>by
  unfold chain at h
  split at h
  ·rename_i ho
   split at h
   ·rename_i y hy
    obtain⟨h1,h2⟩:=chain_le h
    refine⟨by omega,fun f' hf'=>?_⟩
    rcases List.mem_cons.1 hf' with rfl | hf'
    ·exact⟨by omega,y,hy⟩
    ·exact⟨by have:=(h2 f' hf').1;omega,(h2 f' hf').2⟩
   ·simp at h
  ·simp at h
def plainB (ti:Types) (T:List TypeId):Bool:=
 T.all fun t=>match ti t with
  | some x=>match x.desc with
   | .bool | .int _ | .string=>x.size==1
   | .slice e=>T.contains e&&(x.size==1)&&(match ti e with
    | some y=>decide (0<y.size)&&(rowD y.desc || y.size==1)
    | none=>false)
   | .struct fs=>(chain ti 0 fs.toList==some x.size)&&fs.toList.all fun f=>T.contains f.type
   | _=>false
  | none=>false
theorem choose_list {Q:Nat→D→Prop}:∀n,(∀i,i<n→∃r,Q i r)→∃l:List D,l.length=n∧∀i r,l[i]?=some r→Q i r
 | 0,_=>⟨[],rfl,by simp⟩
 | n+1,h=>by
  obtain⟨l,h1,h2⟩:=choose_list n (fun i hi=>h i (by omega))
  obtain⟨r,hr⟩:=h n (by omega)
  refine⟨l++[r],by simp[h1],fun i r' hi=>?_⟩
  by_cases hl:i<l.length
  ·rw[List.getElem?_append_left hl]at hi;exact h2 i r' hi
  ·rw[List.getElem?_append_right (by omega)]at hi
   have hin:i=n:=by
    by_cases he:i=n
    ·exact he
    ·rw[List.getElem?_eq_none (by simp;omega)]at hi;simp at hi
   subst hin
   rw[h1]at hi
   simp at hi
   subst hi
   exact hr
def RelDs (w:World) (Z:Zone) (ds:List D) (cs:List Value):Prop:=
 ds.length=cs.length∧(∀c∈ds,c.isAgg=false)∧∀(j:Nat) c u,ds[j]?=some c→cs[j]?=some u→RelD w Z c u
theorem relDs_one {w:World}{Z:Zone}{c:D}{u:Value}(hc:c.isAgg=false) (h:RelD w Z c u):RelDs w Z [c] [u]:=
 ⟨rfl,by simpa using hc,fun j c' u' h1 h2=>by
  match j with
  | 0=>simp at h1 h2;subst h1;subst h2;exact h
  | j+1=>simp at h1⟩
theorem conv_fields {w:World}{Z:Zone}{ti:Types}{cs:List Value}:∀(fs:List Field) (off tot:Nat),chain ti off fs=some tot→tot≤cs.length→
  (∀f∈fs,∀y,ti f.type=some y→∃ds,Shape ti f.type ds∧RelDs w Z ds ((cs.drop f.offset).take y.size))→
  ∃ds,RelDs w Z ds ((cs.drop off).take (tot - off))∧∀f∈fs,∀y,ti f.type=some y→Shape ti f.type ((ds.drop (f.offset - off)).take y.size)
 | [],off,tot,h,_,_=>by
  simp[chain]at h
  subst h
  exact⟨[],⟨by simp,by simp,by simp⟩,by simp⟩
 | f::fs,off,tot,h,hl,hx=>by
  unfold chain at h
  split at h
  ·rename_i ho
   split at h
   ·rename_i y hy
    obtain⟨hle,hoff⟩:=chain_le h
    obtain⟨ds',⟨a1,a2,a3⟩,hs'⟩:=conv_fields fs _ tot h hl (fun f' hf'=>hx f' (List.mem_cons_of_mem _ hf'))
    obtain⟨p,hp,b1,b2,b3⟩:=hx f (by simp) y hy
    rw[ho]at b1 b3
    have hpl:p.length=y.size:=by rw[b1];simp;omega
    refine⟨p++ds',⟨?_,?_,?_⟩,fun f' hf' y' hy'=>?_⟩
    ·simp at a1 ⊢;omega
    ·intro c hc
     rcases List.mem_append.1 hc with hc | hc
     ·exact b2 c hc
     ·exact a2 c hc
    ·intro j c u hc hu
     rw[List.getElem?_take]at hu
     split at hu
     ·rename_i hj
      rw[List.getElem?_drop]at hu
      by_cases hjp:j<p.length
      ·rw[List.getElem?_append_left hjp]at hc
       refine b3 j c u hc ?_
       rw[List.getElem?_take,if_pos (by omega),List.getElem?_drop];exact hu
      ·rw[List.getElem?_append_right (by omega)]at hc
       refine a3 (j - p.length) c u hc ?_
       rw[List.getElem?_take,if_pos (by omega),List.getElem?_drop,←hu]
       congr 1
       omega
     ·simp at hu
    ·rcases List.mem_cons.1 hf' with rfl | hf'
     ·rw[hy]at hy'
      obtain rfl:y=y':=by simpa using hy'
      rw[ho,Nat.sub_self,List.drop_zero,List.take_append_of_le_length (by omega),List.take_of_length_le (by omega)]
      exact hp
     ·have h1:=(hoff f' hf').1
      have:=hs' f' hf' y' hy'
      rw[List.drop_append,List.drop_of_length_le (by omega),List.nil_append]
      rw[show f'.offset - off - p.length=f'.offset - (off+y.size)from by omega]
      exact this
   ·simp at h
  ·simp at h
theorem cellsOf_ti {P:Program}{ti:Types}(hti:TIok P ti) {t:TypeId}{x:TI}(h:ti t=some x):P.cellsOf t=x.size:=by
 obtain⟨_,i,h1,h2,_⟩:=hti t x h
 simp[Program.cellsOf,h1,h2]
theorem conv {H:Type}{enc:TypeId×Value→H}{P:Program}{ti:Types}(hti:TIok P ti) {T:List TypeId}(hT:plainB ti T=true) {w:World}{base:Nat}{spare:Nat→Bool}{held:Bool}{Z:Zone}(hZ:∀b o,¬Z b o):
  ∀(fuel:Nat) (t:TypeId) (cs:List Value) (d:DataW H) (ps:List MemPlace),t∈T→DataW.trod enc P w base spare held fuel t cs=some (d,ps)→∃ds,Shape ti t ds∧RelDs w Z ds cs
 | 0,t,cs,d,ps,_,h=>by simp[DataW.trod]at h
 | fuel+1,t,cs,d,ps,ht,h=>by
  have hp:=hT
  unfold plainB at hp
  have hp:=List.all_eq_true.1 hp t ht
  split at hp
  ·rename_i x hx
   have hu:=(hti t x hx).1
   have hcs:=cellsOf_ti hti hx
   split at hp
   ·rename_i hd
    rw[hd]at hu
    unfold DataW.trod at h
    simp only[hu]at h
    split at h<;>simp_all
    exact⟨_,.bool _ hx hd,relDs_one rfl (.bool _)⟩
   ·rename_i k hd
    rw[hd]at hu
    unfold DataW.trod at h
    simp only[hu]at h
    split at h<;>simp_all
    obtain⟨⟨rfl,hw⟩,_⟩:=h
    exact⟨_,.int _ hx hd hw,relDs_one rfl (.int _ _)⟩
   ·rename_i hd
    rw[hd]at hu
    unfold DataW.trod at h
    simp only[hu]at h
    split at h<;>simp_all
    exact⟨_,.str _ hx hd h.1,relDs_one rfl (.str _)⟩
   ·rename_i e hd
    rw[hd]at hu
    simp only[Bool.and_eq_true]at hp
    obtain⟨⟨he,_⟩,hp⟩:=hp
    have he:e∈T:=by simpa using he
    split at hp
    ·rename_i y hy
     simp only[Bool.and_eq_true,decide_eq_true_eq]at hp
     have hey:=cellsOf_ti hti hy
     unfold DataW.trod at h
     simp only[hu]at h
     split at h<;>rename_i hq<;>try cases hq
     ·exact⟨_,.slice [] hx hd hy (by simp) (by simp) (by simp),relDs_one rfl (relD_nil _ _)⟩
     ·rename_i a len cap
      rw[hey]at h
      split at h
      ·rename_i hg
       obtain⟨elems,he1,_⟩:=Option.bind_eq_some_iff.1 h
       have hel:elems.length=len:=by simpa using mapM_some_length he1
       have each:∀i,i<len→∃cs' ds,(w.cells? base (a.add (i*y.size)) y.size)=some cs'∧Shape ti e ds∧RelDs w Z ds cs':=by
        intro i hi
        have h1:=mapM_some_get he1 i i (by simp[hi])
        rw[List.getElem?_eq_getElem (by omega:i<elems.length)]at h1
        obtain⟨cs',h2,h3⟩:=Option.bind_eq_some_iff.1 h1
        obtain⟨ds,h4,h5⟩:=conv hti hT hZ fuel e cs' _ _ he h3
        exact⟨cs',ds,h2,h4,h5⟩
       have hspot:0<len→a.spot=none:=by
        intro hl
        obtain⟨cs',_,h2,_⟩:=each 0 hl
        obtain⟨_,h3,h4⟩:=World.cells?_some h2
        have h5:=h4 0 hp.1
        rw[List.getElem?_eq_getElem (by omega)]at h5
        simp only[Nat.zero_mul,Addr.add,if_true]at h5
        unfold World.cell? at h5
        split at h5
        ·split at h5
         ·cases h5
         ·rename_i hs;simpa using hs
        ·cases h5
       obtain⟨rows,hrl,hrows⟩:=choose_list (Q:=fun i r=>r.fits (rowD y.desc) y.size∧Shape ti e r.cells∧∀(j:Nat) c,r.cells[j]?=some c→
         ∃u,w.cell? ⟨a.block,a.off+(i*y.size+j),none⟩=some u∧RelD w Z c u) len (fun i hi=>by
        obtain⟨cs',ds,h2,h3,h4⟩:=each i hi
        obtain⟨_,h5,h6⟩:=World.cells?_some h2
        have hdl:ds.length=y.size:=h4.1.trans h5
        obtain⟨r,hr1,hr2⟩:∃r:D,r.cells=ds∧r.isAgg=rowD y.desc:=by
         cases hrw:rowD y.desc with
         | true=>exact⟨.agg ds,rfl,rfl⟩
         | false=>
          rw[hrw]at hp
          have:y.size=1:=by simpa using hp.2
          obtain⟨c,rfl⟩:=List.length_eq_one_iff.1 (hdl.trans this)
          have hc:=h4.2.1 c (by simp)
          exact⟨c,by cases c<;>first | rfl | simp[D.isAgg]at hc,hc⟩
        refine⟨r,⟨hr2,by rw[hr1,hdl],by rw[hr1];exact h4.2.1⟩,by rw[hr1];exact h3,fun j c hc=>?_⟩
        rw[hr1]at hc
        have hj:j<y.size:=by rw[←hdl];exact (List.getElem?_eq_some_iff.1 hc).1
        have h7:=h6 j hj
        have ha:(a.add (i*y.size)).add j=⟨a.block,a.off+(i*y.size+j),none⟩:=by
         have:=hspot (by omega)
         obtain⟨ab,ao,asp⟩:=a
         simp only at this
         subst this
         unfold Addr.add
         split<;>split<;>simp_all<;>omega
        rw[ha,List.getElem?_eq_getElem (by omega:j<cs'.length)]at h7
        exact⟨_,h7,h4.2.2 j c _ hc (List.getElem?_eq_getElem (by omega:j<cs'.length))⟩)
       refine⟨_,.slice rows hx hd hy (by omega) (fun r hr=>?_) (fun r hr=>?_),relDs_one rfl ?_⟩
       ·obtain⟨i,hi⟩:=List.mem_iff_getElem?.1 hr
        exact (hrows i r hi).1
       ·obtain⟨i,hi⟩:=List.mem_iff_getElem?.1 hr
        exact (hrows i r hi).2.1
       ·rw[←hrl]
        refine .list _ _ rows (some a) cap a.block a.off (fun i j=>(w.cell? ⟨a.block,a.off+(i*y.size+j),none⟩).getD undef) (by omega) hg.2.2 (fun r hr=>?_) (fun hne=>?_) (fun i r j c hr hc=>?_) (fun i r j c hr hc=>?_)
        ·obtain⟨i,hi⟩:=List.mem_iff_getElem?.1 hr
         exact (hrows i r hi).1
        ·have:=hspot (by rw[←hrl];exact List.length_pos_iff.2 hne)
         obtain⟨ab,ao,asp⟩:=a
         simp only at this
         rw[this]
        ·obtain⟨u,hu1,_⟩:=(hrows i r hr).2.2 j c hc
         rw[hu1]
         exact⟨rfl,hZ _ _⟩
        ·obtain⟨u,hu1,hu2⟩:=(hrows i r hr).2.2 j c hc
         rw[hu1]
         exact hu2
      ·cases h
     ·cases h
    ·simp at hp
   ·rename_i fs hd
    rw[hd]at hu
    simp only[Bool.and_eq_true,beq_iff_eq]at hp
    obtain⟨hch,hfs⟩:=hp
    unfold DataW.trod at h
    simp only[hu]at h
    split at h<;>rename_i hq<;>try cases hq
    ·obtain⟨xs,hxs,_⟩:=Option.map_eq_some_iff.1 h
     obtain⟨ds,h1,h2⟩:=conv_fields (w:=w) (Z:=Z) (cs:=cs) fs.toList 0 x.size hch (by omega) (fun f hf y hy=>by
      obtain⟨i,hi⟩:=List.mem_iff_getElem?.1 hf
      have h3:=mapM_some_get hxs i f hi
      have hil:i<xs.length:=by rw[mapM_some_length hxs];exact (List.getElem?_eq_some_iff.1 hi).1
      rw[List.getElem?_eq_getElem hil,cellsOf_ti hti hy]at h3
      have hfT:f.type∈T:=by simpa using List.all_eq_true.1 hfs f hf
      exact conv hti hT hZ fuel f.type _ _ _ hfT h3)
     rw[List.drop_zero,Nat.sub_zero,List.take_of_length_le (by omega)]at h1
     exact⟨ds,.struct ds hx hd (by rw[h1.1];omega) h1.2.1 (fun f hf y hy=>by simpa using h2 f hf y hy),h1⟩
    ·cases h
   ·simp at hp
  ·simp at hp
end Go.AM
namespace Go.AM
open Go
structure AllR (L L':List D) (r:Nat→Bool) (R:Bool):Prop where
 len:L.length≠L'.length→R=false
 bad:∀i,i<L.length→i<L'.length→r i=false→R=false
 good:L.length=L'.length→(∀i,i<L.length→r i=true)→R=true
theorem AllR.of (L L':List D) (r:Nat→Bool):AllR L L' r (decide (L.length=L'.length∧∀i,i<L.length→r i=true)) where
 len h:=by simp[h]
 bad i h1 h2 h:=by
  rw[decide_eq_false_iff_not]
  rintro⟨_,h3⟩
  rw[h3 i h1]at h
  cases h
 good h1 h2:=by rw[decide_eq_true_iff];exact⟨h1,h2⟩
section
variable {ti:Types}{t e:TypeId}{x y:TI}{ds:List D}{fs:Array Field}{k:IntKind}
theorem Shape.int_inv (h:Shape ti t ds) (hx:ti t=some x) (hd:x.desc= .int k):∃n,ds=[.int k n]∧(Lit.int k n).wf=true:=by
 cases h<;>simp_all
theorem Shape.str_inv (h:Shape ti t ds) (hx:ti t=some x) (hd:x.desc= .string):∃s,ds=[.str s]∧s.size≤maxLen:=by
 cases h<;>simp_all
theorem Shape.slice_inv (h:Shape ti t ds) (hx:ti t=some x) (hd:x.desc= .slice e) (hy:ti e=some y):
  ∃rows,ds=[.list (rowD y.desc) y.size rows]∧rows.length≤maxLen∧(∀r∈rows,r.fits (rowD y.desc) y.size)∧∀r∈rows,Shape ti e r.cells:=by
 cases h with
 | slice rows h1 h2 h3 h4 h5 h6=>
  rw[hx]at h1
  obtain rfl:=Option.some.inj h1
  rw[hd]at h2
  obtain rfl:=TypeDesc.slice.inj h2
  rw[hy]at h3
  obtain rfl:=Option.some.inj h3
  exact⟨rows,rfl,h4,h5,h6⟩
 | _=>simp_all
theorem Shape.struct_inv (h:Shape ti t ds) (hx:ti t=some x) (hd:x.desc= .struct fs):
  ds.length=x.size∧(∀c∈ds,c.isAgg=false)∧∀f∈fs.toList,∀y,ti f.type=some y→Shape ti f.type ((ds.drop f.offset).take y.size):=by
 cases h with
 | struct ds h1 h2 h3 h4 h5=>
  rw[hx]at h1
  obtain rfl:=Option.some.inj h1
  rw[hd]at h2
  obtain rfl:=TypeDesc.struct.inj h2
  exact⟨h3,h4,h5⟩
 | _=>simp_all
end
open Classical in
theorem AllR.same (L L':List D):AllR L L' (fun i=>decide (L[i]?=L'[i]?)) (decide (L=L')) where
 len h:=by rw[decide_eq_false_iff_not];rintro rfl;exact h rfl
 bad i h1 h2 h:=by
  rw[decide_eq_false_iff_not]at h ⊢
  rintro rfl;exact h rfl
 good h1 h2:=by
  rw[decide_eq_true_iff]
  refine List.ext_getElem? fun i=>?_
  by_cases hi:i<L.length
  ·exact of_decide_eq_true (h2 i hi)
  ·rw[List.getElem?_eq_none (by omega),List.getElem?_eq_none (by omega)]
def tyD (ti:Types) (t:TypeId):TI:=
 match ti t with
 | some x=>x
 | none=>⟨.bool,0,0,.bool false,[]⟩
theorem bytes_eq {a b:ByteArray}:(a.toList==b.toList)=true↔a=b:=by
 constructor
 ·intro h
  have h:=beq_iff_eq.1 h
  rw[ByteArray.toList_eq,ByteArray.toList_eq]at h
  exact ByteArray.ext (Array.ext' h)
 ·rintro rfl;simp
theorem bytes_ne {a b:ByteArray}:(a.toList==b.toList)=false↔a≠b:=by
 rw[←Bool.not_eq_true,bytes_eq]
end Go.AM
namespace Go.AM
open Go
section
variable {α γ:Type}
def letF (z:Int) (k:Int→Option γ):Option γ:=k z
theorem letF_inv {z:Int}{k:Int→Option γ}{r:γ}(h:letF z k=some r):∃y,z=y∧k y=some r:=⟨z,rfl,h⟩
def lenF (L:List D) (k:Int→Option γ):Option γ:=k L.length
theorem lenF_inv (M:Mach) {L:List D}{k:Int→Option γ}{r:γ}(h:lenF L k=some r):∃y,M.lenI L=y∧k y=some r:=⟨L.length,M.lenI_eq L,h⟩
def szF (s:ByteArray) (k:Int→Option γ):Option γ:=k s.size
theorem szF_inv (M:Mach) {s:ByteArray}{k:Int→Option γ}{r:γ}(h:szF s k=some r):∃y,M.szI s=y∧k y=some r:=⟨s.size,M.szI_eq s,h⟩
def getF (L:List D) (i:Int) (k:D→Option γ):Option γ:=if 0≤i then (match L[i.toNat]? with | some x=>k x | none=>none)else none
theorem getF_inv {L:List D}{i:Int}{k:D→Option γ}{r:γ}(h:getF L i k=some r):∃x,(0≤i∧L[i.toNat]?=some x)∧k x=some r:=by
 unfold getF at h
 split at h
 ·rename_i h0
  split at h
  ·rename_i x hx
   exact⟨x,⟨h0,hx⟩,h⟩
  ·cases h
 ·cases h
theorem getF_some {L:List D}{i:Int}{k:D→Option γ}{x:D}(h0:0≤i) (hx:L[i.toNat]?=some x):getF L i k=k x:=by
 unfold getF
 rw[if_pos h0,hx]
def needF (p:Prop) [Decidable p] (x:Option γ):Option γ:=if p then x else none
theorem needF_inv {p:Prop} [Decidable p] {x:Option γ}{r:γ}(h:needF p x=some r):p∧x=some r:=by
 unfold needF at h
 split at h
 ·rename_i hp
  exact⟨hp,h⟩
 ·cases h
theorem ite_t {p:Prop} [Decidable p] {x y r:Option γ}(hp:p) (h:(if p then x else y)=r):x=r:=by rwa [if_pos hp]at h
theorem ite_f {p:Prop} [Decidable p] {x y r:Option γ}(hp:¬p) (h:(if p then x else y)=r):y=r:=by rwa [if_neg hp]at h
def appF (b:Nat) (L M:List D) (k:List D→Option γ):Option γ:=if L.length+M.length≤maxLen∧(L.length+M.length)*b≤140737488355328 then k (L++M)else none
theorem appF_inv {b:Nat}{L M:List D}{k:List D→Option γ}{r:γ}(h:appF b L M k=some r):∃out,(L.length+M.length≤maxLen∧(L.length+M.length)*b≤140737488355328)∧L++M=out∧k out=some r:=by
 unfold appF at h
 split at h
 ·rename_i hb
  exact⟨_,hb,rfl,h⟩
 ·cases h
open Classical in
noncomputable def nilF (L:List D) (A B:Option γ):Option γ:=if L=[]then (if A=B then B else none)else B
theorem nilF_inv {L:List D}{A B:Option γ}{r:γ}(h:nilF L A B=some r):B=some r∧(L=[]→A=some r):=by
 unfold nilF at h
 split at h
 ·split at h
  ·rename_i e;exact⟨h,fun _=>e▸h⟩
  ·cases h
 ·rename_i hn;exact⟨h,fun e=>absurd e hn⟩
theorem nilF_eq {L:List D}{A B:Option γ}(h:L=[]→A=B):nilF L A B=B:=by
 unfold nilF
 split
 ·rename_i e;rw[if_pos (h e)]
 ·rfl
theorem nil_both {L:List D}{K0 K1:Prop}(h0:K0) (h1:L=[]→K1):(L≠[]→K0)∧(L=[]→K1∧K0):=⟨fun _=>h0,fun e=>⟨h1 e,h0⟩⟩
def scalB (L:List D):Bool:=L.all fun r=>r.cells.all fun c=>!isCon c
theorem scalB_iff {L:List D}:scalB L=true↔ScalRows L:=by
 simp[scalB,ScalRows]
def setF (L:List D) (i:Nat) (x:D) (k:List D→Option γ):Option γ:=k (L.set i x)
theorem setF_inv {L:List D}{i:Nat}{x:D}{k:List D→Option γ}{r:γ}(h:setF L i x k=some r):∃out,L.set i x=out∧k out=some r:=⟨_,rfl,h⟩
def getN (L:List D) (i:Nat) (k:D→Option γ):Option γ:=match L[i]? with | some x=>k x | none=>none
theorem getN_inv {L:List D}{i:Nat}{k:D→Option γ}{r:γ}(h:getN L i k=some r):∃x,L[i]?=some x∧k x=some r:=by
 unfold getN at h
 split at h
 ·rename_i x hx
  exact⟨x,hx,h⟩
 ·cases h
def bO0 (x:Option Unit) (k:Option γ):Option γ:=match x with | some _=>k | none=>none
theorem bO0_inv {x:Option Unit}{k:Option γ}{r:γ}(h:bO0 x k=some r):x=some ()∧k=some r:=by
 cases x with
 | none=>cases h
 | some u=>exact⟨rfl,h⟩
def bO1 {A1:Type}(x:Option (A1)) (k:A1→Option γ):Option γ:=match x with | some p=>k p | none=>none
theorem bO1_inv {A1:Type}{x:Option (A1)}{k:A1→Option γ}{r:γ}(h:bO1 x k=some r):∃a1,x=some a1∧k a1=some r:=by
 cases x with
 | none=>cases h
 | some p=>exact⟨_,rfl,h⟩
def bO2 {A1 A2:Type}(x:Option (A1×A2)) (k:A1→A2→Option γ):Option γ:=match x with | some p=>k p.1 p.2 | none=>none
theorem bO2_inv {A1 A2:Type}{x:Option (A1×A2)}{k:A1→A2→Option γ}{r:γ}(h:bO2 x k=some r):∃a1 a2,x=some (a1,a2)∧k a1 a2=some r:=by
 cases x with
 | none=>cases h
 | some p=>exact⟨_,_,rfl,h⟩
theorem inj2 {A1 A2:Type}{a1 b1:A1}{a2 b2:A2}(h:some (a1,a2)=some (b1,b2)):a1=b1∧a2=b2:=by
 cases h
 exact⟨rfl,rfl⟩
def bO3 {A1 A2 A3:Type}(x:Option (A1×A2×A3)) (k:A1→A2→A3→Option γ):Option γ:=match x with | some p=>k p.1 p.2.1 p.2.2 | none=>none
theorem bO3_inv {A1 A2 A3:Type}{x:Option (A1×A2×A3)}{k:A1→A2→A3→Option γ}{r:γ}(h:bO3 x k=some r):∃a1 a2 a3,x=some (a1,a2,a3)∧k a1 a2 a3=some r:=by
 cases x with
 | none=>cases h
 | some p=>exact⟨_,_,_,rfl,h⟩
theorem inj3 {A1 A2 A3:Type}{a1 b1:A1}{a2 b2:A2}{a3 b3:A3}(h:some (a1,a2,a3)=some (b1,b2,b3)):a1=b1∧a2=b2∧a3=b3:=by
 cases h
 exact⟨rfl,rfl,rfl⟩
def bO4 {A1 A2 A3 A4:Type}(x:Option (A1×A2×A3×A4)) (k:A1→A2→A3→A4→Option γ):Option γ:=match x with | some p=>k p.1 p.2.1 p.2.2.1 p.2.2.2 | none=>none
theorem bO4_inv {A1 A2 A3 A4:Type}{x:Option (A1×A2×A3×A4)}{k:A1→A2→A3→A4→Option γ}{r:γ}(h:bO4 x k=some r):∃a1 a2 a3 a4,x=some (a1,a2,a3,a4)∧k a1 a2 a3 a4=some r:=by
 cases x with
 | none=>cases h
 | some p=>exact⟨_,_,_,_,rfl,h⟩
theorem inj4 {A1 A2 A3 A4:Type}{a1 b1:A1}{a2 b2:A2}{a3 b3:A3}{a4 b4:A4}(h:some (a1,a2,a3,a4)=some (b1,b2,b3,b4)):a1=b1∧a2=b2∧a3=b3∧a4=b4:=by
 cases h
 exact⟨rfl,rfl,rfl,rfl⟩
def bO7 {A1 A2 A3 A4 A5 A6 A7:Type}(x:Option (A1×A2×A3×A4×A5×A6×A7)) (k:A1→A2→A3→A4→A5→A6→A7→Option γ):Option γ:=match x with | some p=>k p.1 p.2.1 p.2.2.1 p.2.2.2.1 p.2.2.2.2.1 p.2.2.2.2.2.1 p.2.2.2.2.2.2 | none=>none
theorem bO7_inv {A1 A2 A3 A4 A5 A6 A7:Type}{x:Option (A1×A2×A3×A4×A5×A6×A7)}{k:A1→A2→A3→A4→A5→A6→A7→Option γ}{r:γ}(h:bO7 x k=some r):∃a1 a2 a3 a4 a5 a6 a7,x=some (a1,a2,a3,a4,a5,a6,a7)∧k a1 a2 a3 a4 a5 a6 a7=some r:=by
 cases x with
 | none=>cases h
 | some p=>exact⟨_,_,_,_,_,_,_,rfl,h⟩
theorem inj7 {A1 A2 A3 A4 A5 A6 A7:Type}{a1 b1:A1}{a2 b2:A2}{a3 b3:A3}{a4 b4:A4}{a5 b5:A5}{a6 b6:A6}{a7 b7:A7}(h:some (a1,a2,a3,a4,a5,a6,a7)=some (b1,b2,b3,b4,b5,b6,b7)):a1=b1∧a2=b2∧a3=b3∧a4=b4∧a5=b5∧a6=b6∧a7=b7:=by
 cases h
 exact⟨rfl,rfl,rfl,rfl,rfl,rfl,rfl⟩
def bO8 {A1 A2 A3 A4 A5 A6 A7 A8:Type}(x:Option (A1×A2×A3×A4×A5×A6×A7×A8)) (k:A1→A2→A3→A4→A5→A6→A7→A8→Option γ):Option γ:=match x with | some p=>k p.1 p.2.1 p.2.2.1 p.2.2.2.1 p.2.2.2.2.1 p.2.2.2.2.2.1 p.2.2.2.2.2.2.1 p.2.2.2.2.2.2.2 | none=>none
theorem bO8_inv {A1 A2 A3 A4 A5 A6 A7 A8:Type}{x:Option (A1×A2×A3×A4×A5×A6×A7×A8)}{k:A1→A2→A3→A4→A5→A6→A7→A8→Option γ}{r:γ}(h:bO8 x k=some r):∃a1 a2 a3 a4 a5 a6 a7 a8,x=some (a1,a2,a3,a4,a5,a6,a7,a8)∧k a1 a2 a3 a4 a5 a6 a7 a8=some r:=by
 cases x with
 | none=>cases h
 | some p=>exact⟨_,_,_,_,_,_,_,_,rfl,h⟩
theorem inj8 {A1 A2 A3 A4 A5 A6 A7 A8:Type}{a1 b1:A1}{a2 b2:A2}{a3 b3:A3}{a4 b4:A4}{a5 b5:A5}{a6 b6:A6}{a7 b7:A7}{a8 b8:A8}(h:some (a1,a2,a3,a4,a5,a6,a7,a8)=some (b1,b2,b3,b4,b5,b6,b7,b8)):a1=b1∧a2=b2∧a3=b3∧a4=b4∧a5=b5∧a6=b6∧a7=b7∧a8=b8:=by
 cases h
 exact⟨rfl,rfl,rfl,rfl,rfl,rfl,rfl,rfl⟩
def bO14 {A1 A2 A3 A4 A5 A6 A7 A8 A9 A10 A11 A12 A13 A14:Type}(x:Option (A1×A2×A3×A4×A5×A6×A7×A8×A9×A10×A11×A12×A13×A14)) (k:A1→A2→A3→A4→A5→A6→A7→A8→A9→A10→A11→A12→A13→A14→Option γ):Option γ:=match x with | some p=>k p.1 p.2.1 p.2.2.1 p.2.2.2.1 p.2.2.2.2.1 p.2.2.2.2.2.1 p.2.2.2.2.2.2.1 p.2.2.2.2.2.2.2.1 p.2.2.2.2.2.2.2.2.1 p.2.2.2.2.2.2.2.2.2.1 p.2.2.2.2.2.2.2.2.2.2.1 p.2.2.2.2.2.2.2.2.2.2.2.1 p.2.2.2.2.2.2.2.2.2.2.2.2.1 p.2.2.2.2.2.2.2.2.2.2.2.2.2 | none=>none
theorem bO14_inv {A1 A2 A3 A4 A5 A6 A7 A8 A9 A10 A11 A12 A13 A14:Type}{x:Option (A1×A2×A3×A4×A5×A6×A7×A8×A9×A10×A11×A12×A13×A14)}{k:A1→A2→A3→A4→A5→A6→A7→A8→A9→A10→A11→A12→A13→A14→Option γ}{r:γ}(h:bO14 x k=some r):∃a1 a2 a3 a4 a5 a6 a7 a8 a9 a10 a11 a12 a13 a14,x=some (a1,a2,a3,a4,a5,a6,a7,a8,a9,a10,a11,a12,a13,a14)∧k a1 a2 a3 a4 a5 a6 a7 a8 a9 a10 a11 a12 a13 a14=some r:=by
 cases x with
 | none=>cases h
 | some p=>exact⟨_,_,_,_,_,_,_,_,_,_,_,_,_,_,rfl,h⟩
theorem inj14 {A1 A2 A3 A4 A5 A6 A7 A8 A9 A10 A11 A12 A13 A14:Type}{a1 b1:A1}{a2 b2:A2}{a3 b3:A3}{a4 b4:A4}{a5 b5:A5}{a6 b6:A6}{a7 b7:A7}{a8 b8:A8}{a9 b9:A9}{a10 b10:A10}{a11 b11:A11}{a12 b12:A12}{a13 b13:A13}{a14 b14:A14}(h:some (a1,a2,a3,a4,a5,a6,a7,a8,a9,a10,a11,a12,a13,a14)=some (b1,b2,b3,b4,b5,b6,b7,b8,b9,b10,b11,b12,b13,b14)):a1=b1∧a2=b2∧a3=b3∧a4=b4∧a5=b5∧a6=b6∧a7=b7∧a8=b8∧a9=b9∧a10=b10∧a11=b11∧a12=b12∧a13=b13∧a14=b14:=by
 cases h
 exact⟨rfl,rfl,rfl,rfl,rfl,rfl,rfl,rfl,rfl,rfl,rfl,rfl,rfl,rfl⟩
def bO15 {A1 A2 A3 A4 A5 A6 A7 A8 A9 A10 A11 A12 A13 A14 A15:Type}(x:Option (A1×A2×A3×A4×A5×A6×A7×A8×A9×A10×A11×A12×A13×A14×A15)) (k:A1→A2→A3→A4→A5→A6→A7→A8→A9→A10→A11→A12→A13→A14→A15→Option γ):Option γ:=match x with | some p=>k p.1 p.2.1 p.2.2.1 p.2.2.2.1 p.2.2.2.2.1 p.2.2.2.2.2.1 p.2.2.2.2.2.2.1 p.2.2.2.2.2.2.2.1 p.2.2.2.2.2.2.2.2.1 p.2.2.2.2.2.2.2.2.2.1 p.2.2.2.2.2.2.2.2.2.2.1 p.2.2.2.2.2.2.2.2.2.2.2.1 p.2.2.2.2.2.2.2.2.2.2.2.2.1 p.2.2.2.2.2.2.2.2.2.2.2.2.2.1 p.2.2.2.2.2.2.2.2.2.2.2.2.2.2 | none=>none
theorem bO15_inv {A1 A2 A3 A4 A5 A6 A7 A8 A9 A10 A11 A12 A13 A14 A15:Type}{x:Option (A1×A2×A3×A4×A5×A6×A7×A8×A9×A10×A11×A12×A13×A14×A15)}{k:A1→A2→A3→A4→A5→A6→A7→A8→A9→A10→A11→A12→A13→A14→A15→Option γ}{r:γ}(h:bO15 x k=some r):∃a1 a2 a3 a4 a5 a6 a7 a8 a9 a10 a11 a12 a13 a14 a15,x=some (a1,a2,a3,a4,a5,a6,a7,a8,a9,a10,a11,a12,a13,a14,a15)∧k a1 a2 a3 a4 a5 a6 a7 a8 a9 a10 a11 a12 a13 a14 a15=some r:=by
 cases x with
 | none=>cases h
 | some p=>exact⟨_,_,_,_,_,_,_,_,_,_,_,_,_,_,_,rfl,h⟩
theorem inj15 {A1 A2 A3 A4 A5 A6 A7 A8 A9 A10 A11 A12 A13 A14 A15:Type}{a1 b1:A1}{a2 b2:A2}{a3 b3:A3}{a4 b4:A4}{a5 b5:A5}{a6 b6:A6}{a7 b7:A7}{a8 b8:A8}{a9 b9:A9}{a10 b10:A10}{a11 b11:A11}{a12 b12:A12}{a13 b13:A13}{a14 b14:A14}{a15 b15:A15}(h:some (a1,a2,a3,a4,a5,a6,a7,a8,a9,a10,a11,a12,a13,a14,a15)=some (b1,b2,b3,b4,b5,b6,b7,b8,b9,b10,b11,b12,b13,b14,b15)):a1=b1∧a2=b2∧a3=b3∧a4=b4∧a5=b5∧a6=b6∧a7=b7∧a8=b8∧a9=b9∧a10=b10∧a11=b11∧a12=b12∧a13=b13∧a14=b14∧a15=b15:=by
 cases h
 exact⟨rfl,rfl,rfl,rfl,rfl,rfl,rfl,rfl,rfl,rfl,rfl,rfl,rfl,rfl,rfl⟩
def bO16 {A1 A2 A3 A4 A5 A6 A7 A8 A9 A10 A11 A12 A13 A14 A15 A16:Type}(x:Option (A1×A2×A3×A4×A5×A6×A7×A8×A9×A10×A11×A12×A13×A14×A15×A16)) (k:A1→A2→A3→A4→A5→A6→A7→A8→A9→A10→A11→A12→A13→A14→A15→A16→Option γ):Option γ:=match x with | some p=>k p.1 p.2.1 p.2.2.1 p.2.2.2.1 p.2.2.2.2.1 p.2.2.2.2.2.1 p.2.2.2.2.2.2.1 p.2.2.2.2.2.2.2.1 p.2.2.2.2.2.2.2.2.1 p.2.2.2.2.2.2.2.2.2.1 p.2.2.2.2.2.2.2.2.2.2.1 p.2.2.2.2.2.2.2.2.2.2.2.1 p.2.2.2.2.2.2.2.2.2.2.2.2.1 p.2.2.2.2.2.2.2.2.2.2.2.2.2.1 p.2.2.2.2.2.2.2.2.2.2.2.2.2.2.1 p.2.2.2.2.2.2.2.2.2.2.2.2.2.2.2 | none=>none
theorem bO16_inv {A1 A2 A3 A4 A5 A6 A7 A8 A9 A10 A11 A12 A13 A14 A15 A16:Type}{x:Option (A1×A2×A3×A4×A5×A6×A7×A8×A9×A10×A11×A12×A13×A14×A15×A16)}{k:A1→A2→A3→A4→A5→A6→A7→A8→A9→A10→A11→A12→A13→A14→A15→A16→Option γ}{r:γ}(h:bO16 x k=some r):∃a1 a2 a3 a4 a5 a6 a7 a8 a9 a10 a11 a12 a13 a14 a15 a16,x=some (a1,a2,a3,a4,a5,a6,a7,a8,a9,a10,a11,a12,a13,a14,a15,a16)∧k a1 a2 a3 a4 a5 a6 a7 a8 a9 a10 a11 a12 a13 a14 a15 a16=some r:=by
 cases x with
 | none=>cases h
 | some p=>exact⟨_,_,_,_,_,_,_,_,_,_,_,_,_,_,_,_,rfl,h⟩
theorem inj16 {A1 A2 A3 A4 A5 A6 A7 A8 A9 A10 A11 A12 A13 A14 A15 A16:Type}{a1 b1:A1}{a2 b2:A2}{a3 b3:A3}{a4 b4:A4}{a5 b5:A5}{a6 b6:A6}{a7 b7:A7}{a8 b8:A8}{a9 b9:A9}{a10 b10:A10}{a11 b11:A11}{a12 b12:A12}{a13 b13:A13}{a14 b14:A14}{a15 b15:A15}{a16 b16:A16}(h:some (a1,a2,a3,a4,a5,a6,a7,a8,a9,a10,a11,a12,a13,a14,a15,a16)=some (b1,b2,b3,b4,b5,b6,b7,b8,b9,b10,b11,b12,b13,b14,b15,b16)):a1=b1∧a2=b2∧a3=b3∧a4=b4∧a5=b5∧a6=b6∧a7=b7∧a8=b8∧a9=b9∧a10=b10∧a11=b11∧a12=b12∧a13=b13∧a14=b14∧a15=b15∧a16=b16:=by
 cases h
 exact⟨rfl,rfl,rfl,rfl,rfl,rfl,rfl,rfl,rfl,rfl,rfl,rfl,rfl,rfl,rfl,rfl⟩
end
end Go.AM
namespace Go.AM
open Go
def sI (n:Nat) (z:Int):Nat×AV:=(n,.v (.d (.int .i64 z)))
def sU (n:Nat) (z:Int):Nat×AV:=(n,.v (.d (.int .u8 z)))
def sB (n:Nat) (b:Bool):Nat×AV:=(n,.v (.d (.bool b)))
def sT (n s:Nat) (l:List D):Nat×AV:=(n,.v (.d (.list true s l)))
def sF (n s:Nat) (l:List D):Nat×AV:=(n,.v (.d (.list false s l)))
def sL (n i:Nat):Nat×AV:=(n,.v (.c (.ptr (.loc i) 0)))
def sE (n i:Nat):Nat×AV:=(n,.v (.c (.ptr (.ext i) 0)))
def sS (n:Nat) (b:ByteArray):Nat×AV:=(n,.v (.d (.str b)))
abbrev LD:=List D
abbrev BA:=ByteArray
theorem itT {γ:Type}{x y r:Option γ}(h:(if true=true then x else y)=r):x=r:=h
theorem itF {γ:Type}{x y r:Option γ}(h:(if false=true then x else y)=r):y=r:=h
end Go.AM
namespace Go.AM
open Go
def Ev {α:Type}(A:Nat→Option α) (r:α):Prop:=∃N,∀n,N≤n→A n=some r
section
variable {α β γ:Type}
theorem Ev.ret {r:α}:Ev (fun _=>some r) r:=⟨0,fun _ _=>rfl⟩
theorem Ev.of {A:Nat→Option α}{r:α}(h:∀n,A n=some r):Ev A r:=⟨0,fun n _=>h n⟩
theorem Ev.succ {A:Nat→Option α}{r:α}(h:Ev (fun n=>A (n+1)) r):Ev A r:=by
 obtain⟨N,h⟩:=h
 refine⟨N+1,fun n hn=>?_⟩
 obtain⟨m,rfl⟩:∃m,n=m+1:=⟨n - 1,by omega⟩
 exact h m (by omega)
theorem Ev.congr {A B:Nat→Option α}{r:α}(h:Ev A r) (e:∀n,A n=B n):Ev B r:=by
 obtain⟨N,h⟩:=h
 exact⟨N,fun n hn=>(e n)▸h n hn⟩
theorem Ev.bO0 {A:Nat→Option Unit}{k:Nat→Option γ}{r:γ}(ha:Ev A ()) (hk:Ev k r):Ev (fun n=>bO0 (A n) (k n)) r:=by
 obtain⟨N,ha⟩:=ha
 obtain⟨M,hk⟩:=hk
 refine⟨N+M,fun n hn=>?_⟩
 show Go.AM.bO0 (A n) (k n)=some r
 rw[ha n (by omega)]
 exact hk n (by omega)
theorem Ev.bO1 {A:Nat→Option α}{a:α}{k:Nat→α→Option γ}{r:γ}(ha:Ev A a) (hk:Ev (fun n=>k n a) r):Ev (fun n=>bO1 (A n) (k n)) r:=by
 obtain⟨N,ha⟩:=ha
 obtain⟨M,hk⟩:=hk
 refine⟨N+M,fun n hn=>?_⟩
 show Go.AM.bO1 (A n) (k n)=some r
 rw[ha n (by omega)]
 exact hk n (by omega)
theorem Ev.bO2 {A:Nat→Option (α×β)}{a:α}{b:β}{k:Nat→α→β→Option γ}{r:γ}(ha:Ev A (a,b)) (hk:Ev (fun n=>k n a b) r):Ev (fun n=>bO2 (A n) (k n)) r:=by
 obtain⟨N,ha⟩:=ha
 obtain⟨M,hk⟩:=hk
 refine⟨N+M,fun n hn=>?_⟩
 show Go.AM.bO2 (A n) (k n)=some r
 rw[ha n (by omega)]
 exact hk n (by omega)
theorem Ev.run {A:Nat→Option α}{r:α}(h:Ev A r):∃n,A n=some r:=let ⟨N,h⟩:=h;⟨N,h N (Nat.le_refl _)⟩
def Total (A:Nat→Option α):Prop:=∃r,Ev A r
theorem down {P:Nat→Prop}(N:Nat) (h0:P N) (h:∀i,i<N→P (i+1)→P i):∀i,i≤N→P i:=by
 intro i hi
 obtain⟨d,hd⟩:∃d,d=N - i:=⟨_,rfl⟩
 induction d generalizing i with
 | zero=>
      obtain rfl:i=N:=by omega
      exact h0
 | succ d ih=>exact h i (by omega) (ih (i+1) (by omega) (by omega))
end
section
variable {γ:Type}
theorem getF_nat {L:List D}{i:Nat}{x:D}{k:D→Option γ}(hx:L[i]?=some x):getF L (i:Int) k=k x:=getF_some (by omega) (by simpa using hx)
theorem wrap_i64' {x:Int}(h: -9223372036854775808≤x∧x≤9223372036854775807):IntKind.i64.wrap x=x:=IntWalk.i64_in x h
theorem wrap_succ {i N:Nat}(h:i<N) (hN:N≤maxLen):IntKind.i64.wrap ((i:Int)+1)=((i+1:Nat):Int):=by
 have:maxLen=9223372036854775807:=rfl
 rw[wrap_i64' (by omega)];omega
end
def RowS (ti:Types) (e:TypeId) (x:D):Prop:=Shape ti e x.cells∧∀y,ti e=some y→x.isAgg=rowD y.desc
def ListS (ti:Types) (e:TypeId) (L:List D):Prop:=L.length≤maxLen∧∀x∈L,RowS ti e x
theorem ListS.get {ti:Types}{e:TypeId}{L:List D}{i:Nat}(h:ListS ti e L) (hi:i<L.length):∃x,L[i]?=some x∧x∈L∧RowS ti e x:=
 ⟨L[i],List.getElem?_eq_getElem hi,List.getElem_mem hi,h.2 _ (List.getElem_mem hi)⟩
def flatFs (ti:Types) (rec:TypeId→Option (List TypeId)):Nat→List Field→Option (List TypeId)
 | _,[]=>some []
 | off,f::r=>match Nat.beq f.offset off with
  | false=>none
  | true=>match ti f.type with
   | none=>none
   | some y=>match rec f.type with
    | none=>none
    | some l=>match Nat.beq l.length y.size with
     | false=>none
     | true=>match flatFs ti rec (off+y.size) r with
      | none=>none
      | some l'=>some (l++l')
def flatT (ti:Types):Nat→TypeId→Option (List TypeId)
 | 0,_=>none
 | n+1,t=>match ti t with
  | none=>none
  | some x=>match x.desc with
   | .struct fs=>match flatFs ti (flatT ti n) 0 fs.toList with
    | none=>none
    | some l=>match Nat.beq l.length x.size with
     | true=>some l
     | false=>none
   | .array ..=>none
   | _=>some [t]
theorem Shape.one {ti:Types}{t:TypeId}{x:TI}{ds:List D}(h:Shape ti t ds) (hx:ti t=some x) (hd:∀fs,x.desc≠ .struct fs):∃c,ds=[c]:=by
 cases h with
 | struct ds h1 h2=>rw[hx]at h1;obtain rfl:=Option.some.inj h1;exact absurd h2 (hd _)
 | _=>exact⟨_,rfl⟩
theorem flatFs_ok {ti:Types}{rec:TypeId→Option (List TypeId)}{ds:List D}
  (hrec:∀t ls cs,rec t=some ls→Shape ti t cs→cs.length=ls.length∧∀(j:Nat) c tl,cs[j]?=some c→ls[j]?=some tl→Shape ti tl [c]):
  ∀(fs:List Field) (off:Nat) (ls:List TypeId),flatFs ti rec off fs=some ls→(∀f∈fs,∀y,ti f.type=some y→Shape ti f.type ((ds.drop f.offset).take y.size))→
   ∀(j:Nat) c tl,ds[off+j]?=some c→ls[j]?=some tl→Shape ti tl [c]
 | [],off,ls,h,_,j,c,tl,_,hl=>by
  cases h;simp at hl
 | f::fs,off,ls,h,hs,j,c,tl,hc,hl=>by
  unfold flatFs at h
  split at h
  ·cases h
  ·rename_i ho
   have ho:=Nat.eq_of_beq_eq_true ho
   split at h
   ·cases h
   ·rename_i y hy
    split at h
    ·cases h
    ·rename_i l hr
     split at h
     ·cases h
     ·rename_i hb
      have hb:=Nat.eq_of_beq_eq_true hb
      split at h
      ·cases h
      ·rename_i l' hl'
       cases h
       obtain⟨h1,h2⟩:=hrec _ _ _ hr (hs f (by simp) y hy)
       by_cases hj:j<l.length
       ·rw[List.getElem?_append_left hj]at hl
        refine h2 j c tl ?_ hl
        rw[List.getElem?_take,if_pos (by omega),List.getElem?_drop,ho]
        exact hc
       ·rw[List.getElem?_append_right (by omega)]at hl
        refine flatFs_ok hrec fs _ l' hl' (fun f' hf'=>hs f' (List.mem_cons_of_mem _ hf')) (j - l.length) c tl ?_ hl
        rw[←hc];congr 1;omega
theorem Shape.flat {ti:Types}:
  ∀(n:Nat) (t:TypeId) (ls:List TypeId) (ds:List D),flatT ti n t=some ls→Shape ti t ds→ds.length=ls.length∧∀(j:Nat) c tl,ds[j]?=some c→ls[j]?=some tl→Shape ti tl [c]
 | 0,t,ls,ds,h,_=>by cases h
 | n+1,t,ls,ds,h,hs=>by
  unfold flatT at h
  split at h
  ·cases h
  ·rename_i x hx
   have single:(∀fs,x.desc≠ .struct fs)→ls=[t]→ds.length=ls.length∧∀(j:Nat) c tl,ds[j]?=some c→ls[j]?=some tl→Shape ti tl [c]:=by
    rintro hd rfl
    obtain⟨c,rfl⟩:=hs.one hx hd
    refine⟨rfl,fun j c' tl h1 h2=>?_⟩
    match j with
    | 0=>simp at h1 h2;subst h1;subst h2;exact hs
    | j+1=>simp at h1
   split at h
   ·rename_i fs hd
    obtain⟨h1,_,h3⟩:=hs.struct_inv hx hd
    split at h
    ·cases h
    ·rename_i l hl
     split at h
     ·rename_i hb
      cases h
      refine⟨h1.trans (Nat.eq_of_beq_eq_true hb).symm,fun j c tl h4 h5=>?_⟩
      exact flatFs_ok (fun t ls cs h6 h7=>Shape.flat n t ls cs h6 h7) fs.toList 0 ls hl h3 j c tl (by simpa using h4) h5
     ·cases h
   ·cases h
   ·rename_i h1 h2
    cases h
    exact single h1 rfl
theorem RowS.agg {ti:Types}{e:TypeId}{x:D}{y:TI}(h:RowS ti e x) (hy:ti e=some y) (hr:rowD y.desc=true):∃cs,x= .agg cs∧Shape ti e cs:=by
 have h1:=(h.2 y hy).trans hr
 cases x<;>simp[D.isAgg]at h1
 exact⟨_,rfl,h.1⟩
theorem RowS.flat1 {ti:Types}{e:TypeId}{x:D}{y:TI}(h:RowS ti e x) (hy:ti e=some y) (hr:rowD y.desc=false):Shape ti e [x]:=by
 have h1:=(h.2 y hy).trans hr
 have h0:=h.1
 cases x<;>simp_all [D.isAgg,D.cells]
theorem Shape.listS {ti:Types}{t e:TypeId}{x y:TI}{c:D}(h:Shape ti t [c]) (hx:ti t=some x) (hd:x.desc= .slice e) (hy:ti e=some y):
  ∃L,c= .list (rowD y.desc) y.size L∧ListS ti e L:=by
 obtain⟨L,e1,h1,h2,h3⟩:=h.slice_inv hx hd hy
 refine⟨L,(List.cons.inj e1).1,h1,fun r hr=>⟨h3 r hr,fun y' hy'=>?_⟩⟩
 rw[hy]at hy'
 obtain rfl:=Option.some.inj hy'
 exact (h2 r hr).1
theorem Shape.intS {ti:Types}{t:TypeId}{x:TI}{k:IntKind}{c:D}(h:Shape ti t [c]) (hx:ti t=some x) (hd:x.desc= .int k):∃n,c= .int k n∧(Lit.int k n).wf=true:=by
 obtain⟨n,e,hw⟩:=h.int_inv hx hd
 exact⟨n,(List.cons.inj e).1,hw⟩
theorem Shape.strS {ti:Types}{t:TypeId}{x:TI}{c:D}(h:Shape ti t [c]) (hx:ti t=some x) (hd:x.desc= .string):∃s,c= .str s∧s.size≤maxLen:=by
 obtain⟨n,e,hw⟩:=h.str_inv hx hd
 exact⟨n,(List.cons.inj e).1,hw⟩
theorem size_row {ag:Bool}{sz:Nat}{L M:List D}{cs:List D}(h:D.agg cs∈L) (h2:D.list ag sz M∈cs):SizeOf.sizeOf M<SizeOf.sizeOf L:=by
 have h1:=List.sizeOf_lt_of_mem h
 have h3:=List.sizeOf_lt_of_mem h2
 simp at h1 h3
 omega
theorem list_ind {P:List D→Prop}(H:∀L,(∀M,SizeOf.sizeOf M<SizeOf.sizeOf L→P M)→P L) (L:List D):P L:=by
 obtain⟨m,hm⟩:∃m,SizeOf.sizeOf L<m:=⟨_,Nat.lt_succ_self _⟩
 induction m generalizing L with
 | zero=>omega
 | succ m ih=>exact H L (fun M hM=>ih M (by omega))
end Go.AM
namespace Go.AM
open Go
theorem Shape.row {ti:Types}{t:TypeId}{cs:List D}{y:TI}(h:Shape ti t cs) (hy:ti t=some y) (h1:rowD y.desc=true):cs.length=y.size∧∀c∈cs,c.isAgg=false:=by
 cases h with
 | struct ds h hd hl hg hr=>rw[hy]at h;cases h;exact⟨hl,hg⟩
 | bool b h hd=>rw[hy]at h;cases h;rw[hd]at h1;cases h1
 | int n h hd=>rw[hy]at h;cases h;rw[hd]at h1;cases h1
 | str s h hd=>rw[hy]at h;cases h;rw[hd]at h1;cases h1
 | slice rows h hd=>rw[hy]at h;cases h;rw[hd]at h1;cases h1
theorem Shape.cell {ti:Types}{t:TypeId}{cs:List D}{y:TI}(h:Shape ti t cs) (hy:ti t=some y) (h1:rowD y.desc=false):∃c,cs=[c]∧c.isAgg=false:=by
 cases h with
 | struct ds h hd hl hg hr=>rw[hy]at h;cases h;rw[hd]at h1;cases h1
 | bool b h hd=>exact⟨_,rfl,rfl⟩
 | int n h hd=>exact⟨_,rfl,rfl⟩
 | str s h hd=>exact⟨_,rfl,rfl⟩
 | slice rows h hd=>exact⟨_,rfl,rfl⟩
theorem RowS.fits {ti:Types}{e:TypeId}{r:D}{y:TI}(h1:TIone ti) (h:RowS ti e r) (hy:ti e=some y):r.fits (rowD y.desc) y.size:=by
 have ha:=h.2 y hy
 cases hr:rowD y.desc with
 | true=>
  obtain⟨q1,q2⟩:=h.1.row hy hr
  exact⟨by rw[ha,hr],q1,q2⟩
 | false=>
  obtain⟨c,q1,q2⟩:=h.1.cell hy hr
  exact⟨by rw[ha,hr],by rw[q1,h1 e y hy hr];rfl,by rw[q1];simpa using q2⟩
theorem ListS.shape {ti:Types}{t e:TypeId}{x y:TI}{L:List D}(h1:TIone ti) (h:ListS ti e L) (hx:ti t=some x) (hd:x.desc= .slice e) (hy:ti e=some y):Shape ti t [.list (rowD y.desc) y.size L]:=
 .slice L hx hd hy h.1 (fun r hr=>(h.2 r hr).fits h1 hy) (fun r hr=>(h.2 r hr).1)
theorem ListS.nil {ti:Types}{e:TypeId}:ListS ti e []:=⟨Nat.zero_le _,by simp⟩
theorem ListS.cons {ti:Types}{e:TypeId}{x:D}{L:List D}(hx:RowS ti e x) (h:ListS ti e L) (hl:L.length+1≤maxLen):ListS ti e (x::L):=⟨by simpa using hl,fun y hy=>by
 rcases List.mem_cons.1 hy with rfl | hy
 ·exact hx
 ·exact h.2 y hy⟩
theorem ListS.one {ti:Types}{e:TypeId}{x:D}(hx:RowS ti e x):ListS ti e [x]:=.cons hx .nil (by simp[maxLen])
theorem ListS.set {ti:Types}{e:TypeId}{L:List D}(h:ListS ti e L) (i:Nat) {x:D}(hx:RowS ti e x):ListS ti e (L.set i x):=⟨by simpa using h.1,fun y hy=>by
 rcases List.mem_or_eq_of_mem_set hy with hy | rfl
 ·exact h.2 y hy
 ·exact hx⟩
theorem ListS.take {ti:Types}{e:TypeId}{L:List D}(h:ListS ti e L) (i:Nat):ListS ti e (L.take i):=⟨by have:=h.1;simp;omega,fun x hx=>h.2 x (List.mem_of_mem_take hx)⟩
theorem ListS.drop {ti:Types}{e:TypeId}{L:List D}(h:ListS ti e L) (i:Nat):ListS ti e (L.drop i):=⟨by have:=h.1;simp;omega,fun x hx=>h.2 x (List.mem_of_mem_drop hx)⟩
theorem Ev.bO3 {A1 A2 A3 γ:Type}{A:Nat→Option (A1×A2×A3)}{a1:A1}{a2:A2}{a3:A3}{k:Nat→A1→A2→A3→Option γ}{r:γ}(ha:Ev A (a1,a2,a3)) (hk:Ev (fun n=>k n a1 a2 a3) r):Ev (fun n=>bO3 (A n) (k n)) r:=by
 obtain⟨N,ha⟩:=ha
 obtain⟨M,hk⟩:=hk
 refine⟨N+M,fun n hn=>?_⟩
 show Go.AM.bO3 (A n) (k n)=some r
 rw[ha n (by omega)]
 exact hk n (by omega)
theorem Ev.bO4 {A1 A2 A3 A4 γ:Type}{A:Nat→Option (A1×A2×A3×A4)}{a1:A1}{a2:A2}{a3:A3}{a4:A4}{k:Nat→A1→A2→A3→A4→Option γ}{r:γ}(ha:Ev A (a1,a2,a3,a4)) (hk:Ev (fun n=>k n a1 a2 a3 a4) r):Ev (fun n=>bO4 (A n) (k n)) r:=by
 obtain⟨N,ha⟩:=ha
 obtain⟨M,hk⟩:=hk
 refine⟨N+M,fun n hn=>?_⟩
 show Go.AM.bO4 (A n) (k n)=some r
 rw[ha n (by omega)]
 exact hk n (by omega)
theorem Ev.bO7 {A1 A2 A3 A4 A5 A6 A7 γ:Type}{A:Nat→Option (A1×A2×A3×A4×A5×A6×A7)}{a1:A1}{a2:A2}{a3:A3}{a4:A4}{a5:A5}{a6:A6}{a7:A7}{k:Nat→A1→A2→A3→A4→A5→A6→A7→Option γ}{r:γ}(ha:Ev A (a1,a2,a3,a4,a5,a6,a7)) (hk:Ev (fun n=>k n a1 a2 a3 a4 a5 a6 a7) r):Ev (fun n=>bO7 (A n) (k n)) r:=by
 obtain⟨N,ha⟩:=ha
 obtain⟨M,hk⟩:=hk
 refine⟨N+M,fun n hn=>?_⟩
 show Go.AM.bO7 (A n) (k n)=some r
 rw[ha n (by omega)]
 exact hk n (by omega)
theorem Ev.bO8 {A1 A2 A3 A4 A5 A6 A7 A8 γ:Type}{A:Nat→Option (A1×A2×A3×A4×A5×A6×A7×A8)}{a1:A1}{a2:A2}{a3:A3}{a4:A4}{a5:A5}{a6:A6}{a7:A7}{a8:A8}{k:Nat→A1→A2→A3→A4→A5→A6→A7→A8→Option γ}{r:γ}(ha:Ev A (a1,a2,a3,a4,a5,a6,a7,a8)) (hk:Ev (fun n=>k n a1 a2 a3 a4 a5 a6 a7 a8) r):Ev (fun n=>bO8 (A n) (k n)) r:=by
 obtain⟨N,ha⟩:=ha
 obtain⟨M,hk⟩:=hk
 refine⟨N+M,fun n hn=>?_⟩
 show Go.AM.bO8 (A n) (k n)=some r
 rw[ha n (by omega)]
 exact hk n (by omega)
theorem Ev.bO14 {A1 A2 A3 A4 A5 A6 A7 A8 A9 A10 A11 A12 A13 A14 γ:Type}{A:Nat→Option (A1×A2×A3×A4×A5×A6×A7×A8×A9×A10×A11×A12×A13×A14)}{a1:A1}{a2:A2}{a3:A3}{a4:A4}{a5:A5}{a6:A6}{a7:A7}{a8:A8}{a9:A9}{a10:A10}{a11:A11}{a12:A12}{a13:A13}{a14:A14}{k:Nat→A1→A2→A3→A4→A5→A6→A7→A8→A9→A10→A11→A12→A13→A14→Option γ}{r:γ}(ha:Ev A (a1,a2,a3,a4,a5,a6,a7,a8,a9,a10,a11,a12,a13,a14)) (hk:Ev (fun n=>k n a1 a2 a3 a4 a5 a6 a7 a8 a9 a10 a11 a12 a13 a14) r):Ev (fun n=>bO14 (A n) (k n)) r:=by
 obtain⟨N,ha⟩:=ha
 obtain⟨M,hk⟩:=hk
 refine⟨N+M,fun n hn=>?_⟩
 show Go.AM.bO14 (A n) (k n)=some r
 rw[ha n (by omega)]
 exact hk n (by omega)
theorem Ev.bO15 {A1 A2 A3 A4 A5 A6 A7 A8 A9 A10 A11 A12 A13 A14 A15 γ:Type}{A:Nat→Option (A1×A2×A3×A4×A5×A6×A7×A8×A9×A10×A11×A12×A13×A14×A15)}{a1:A1}{a2:A2}{a3:A3}{a4:A4}{a5:A5}{a6:A6}{a7:A7}{a8:A8}{a9:A9}{a10:A10}{a11:A11}{a12:A12}{a13:A13}{a14:A14}{a15:A15}{k:Nat→A1→A2→A3→A4→A5→A6→A7→A8→A9→A10→A11→A12→A13→A14→A15→Option γ}{r:γ}(ha:Ev A (a1,a2,a3,a4,a5,a6,a7,a8,a9,a10,a11,a12,a13,a14,a15)) (hk:Ev (fun n=>k n a1 a2 a3 a4 a5 a6 a7 a8 a9 a10 a11 a12 a13 a14 a15) r):Ev (fun n=>bO15 (A n) (k n)) r:=by
 obtain⟨N,ha⟩:=ha
 obtain⟨M,hk⟩:=hk
 refine⟨N+M,fun n hn=>?_⟩
 show Go.AM.bO15 (A n) (k n)=some r
 rw[ha n (by omega)]
 exact hk n (by omega)
theorem Ev.bO16 {A1 A2 A3 A4 A5 A6 A7 A8 A9 A10 A11 A12 A13 A14 A15 A16 γ:Type}{A:Nat→Option (A1×A2×A3×A4×A5×A6×A7×A8×A9×A10×A11×A12×A13×A14×A15×A16)}{a1:A1}{a2:A2}{a3:A3}{a4:A4}{a5:A5}{a6:A6}{a7:A7}{a8:A8}{a9:A9}{a10:A10}{a11:A11}{a12:A12}{a13:A13}{a14:A14}{a15:A15}{a16:A16}{k:Nat→A1→A2→A3→A4→A5→A6→A7→A8→A9→A10→A11→A12→A13→A14→A15→A16→Option γ}{r:γ}(ha:Ev A (a1,a2,a3,a4,a5,a6,a7,a8,a9,a10,a11,a12,a13,a14,a15,a16)) (hk:Ev (fun n=>k n a1 a2 a3 a4 a5 a6 a7 a8 a9 a10 a11 a12 a13 a14 a15 a16) r):Ev (fun n=>bO16 (A n) (k n)) r:=by
 obtain⟨N,ha⟩:=ha
 obtain⟨M,hk⟩:=hk
 refine⟨N+M,fun n hn=>?_⟩
 show Go.AM.bO16 (A n) (k n)=some r
 rw[ha n (by omega)]
 exact hk n (by omega)
end Go.AM
namespace Go.Proofs.Ytiiojajgajnhpaa
open Go Go.AM
def tabC0:List (Nat×TI):=[(1,⟨.func #[] #[] false,1,8,.nilFunc,[.nilf]⟩),
 (2,⟨.int .i64,1,8,.int .i64 0,[.d (.int .i64 0)]⟩),
 (3,⟨.int .i64,1,8,.int .i64 0,[.d (.int .i64 0)]⟩),
 (4,⟨.bool,1,1,.bool false,[.d (.bool false)]⟩),
 (5,⟨.int .u8,1,1,.int .u8 0,[.d (.int .u8 0)]⟩),
 (6,⟨.int .u8,1,1,.int .u8 0,[.d (.int .u8 0)]⟩),
 (7,⟨.struct #[⟨"x",2,0,false, "", "runtime",0⟩,⟨"y",3,1,false, "", "runtime",8⟩,⟨"signed",4,2,false, "", "runtime",16⟩,⟨"code",6,3,false, "", "runtime",17⟩],4,24,.agg #[.int .i64 0,.int .i64 0,.bool false,.int .u8 0],[.d (.int .i64 0),.d (.int .i64 0),.d (.bool false),.d (.int .u8 0)]⟩),
 (8,⟨.struct #[⟨"x",2,0,false, "", "runtime",0⟩,⟨"y",3,1,false, "", "runtime",8⟩,⟨"signed",4,2,false, "", "runtime",16⟩,⟨"code",6,3,false, "", "runtime",17⟩],4,24,.agg #[.int .i64 0,.int .i64 0,.bool false,.int .u8 0],[.d (.int .i64 0),.d (.int .i64 0),.d (.bool false),.d (.int .u8 0)]⟩),
 (9,⟨.string,1,16,.string ByteArray.empty,[.d (.str ByteArray.empty)]⟩),
 (10,⟨.string,1,16,.string ByteArray.empty,[.d (.str ByteArray.empty)]⟩),
 (11,⟨.string,1,16,.string ByteArray.empty,[.d (.str ByteArray.empty)]⟩),
 (12,⟨.int .u64,1,8,.int .u64 0,[.d (.int .u64 0)]⟩),
 (13,⟨.struct #[⟨"msg",9,0,false, "", "runtime",0⟩,⟨"addr",12,1,false, "", "runtime",16⟩],2,24,.agg #[.string ByteArray.empty,.int .u64 0],[.d (.str ByteArray.empty),.d (.int .u64 0)]⟩),
 (14,⟨.struct #[⟨"msg",9,0,false, "", "runtime",0⟩,⟨"addr",12,1,false, "", "runtime",16⟩],2,24,.agg #[.string ByteArray.empty,.int .u64 0],[.d (.str ByteArray.empty),.d (.int .u64 0)]⟩),
 (15,⟨.pointer 209,1,8,.pointer none,[.nilp]⟩)]
def tabC1:List (Nat×TI):=[(16,⟨.pointer 212,1,8,.pointer none,[.nilp]⟩),
 (17,⟨.pointer 221,1,8,.pointer none,[.nilp]⟩),
 (18,⟨.struct #[⟨"typ",17,0,false, "", "internal/runtime/maps",0⟩],1,8,.agg #[.pointer none],[.nilp]⟩),
 (19,⟨.struct #[⟨"typ",17,0,false, "", "internal/runtime/maps",0⟩],1,8,.agg #[.pointer none],[.nilp]⟩),
 (21,⟨.int .i32,1,4,.int .i32 0,[.d (.int .i32 0)]⟩),
 (22,⟨.slice 126,1,24,.slice none 0 0,[.nils true 16]⟩),
 (23,⟨.struct #[⟨"Items",22,0,false, "", "",0⟩],1,24,.agg #[.slice none 0 0],[.nils true 16]⟩),
 (24,⟨.struct #[⟨"Items",22,0,false, "", "",0⟩],1,24,.agg #[.slice none 0 0],[.nils true 16]⟩),
 (25,⟨.slice 27,1,24,.slice none 0 0,[.nils true 3]⟩),
 (26,⟨.struct #[⟨"Kind",5,0,false, "", "",0⟩,⟨"Name",9,1,false, "", "",8⟩,⟨"Args",25,2,false, "", "",24⟩],3,48,.agg #[.int .u8 0,.string ByteArray.empty,.slice none 0 0],[.d (.int .u8 0),.d (.str ByteArray.empty),.nils true 3]⟩),
 (27,⟨.struct #[⟨"Kind",5,0,false, "", "",0⟩,⟨"Name",9,1,false, "", "",8⟩,⟨"Args",25,2,false, "", "",24⟩],3,48,.agg #[.int .u8 0,.string ByteArray.empty,.slice none 0 0],[.d (.int .u8 0),.d (.str ByteArray.empty),.nils true 3]⟩),
 (28,⟨.slice 9,1,24,.slice none 0 0,[.nils false 1]⟩),
 (29,⟨.struct #[⟨"Name",9,0,false, "", "",0⟩,⟨"Path",28,1,false, "", "",16⟩],2,40,.agg #[.string ByteArray.empty,.slice none 0 0],[.d (.str ByteArray.empty),.nils false 1]⟩),
 (30,⟨.struct #[⟨"Name",9,0,false, "", "",0⟩,⟨"Path",28,1,false, "", "",16⟩],2,40,.agg #[.string ByteArray.empty,.slice none 0 0],[.d (.str ByteArray.empty),.nils false 1]⟩),
 (31,⟨.slice 33,1,24,.slice none 0 0,[.nils true 8]⟩)]
def tabC2:List (Nat×TI):=[(32,⟨.struct #[⟨"Op",5,0,false, "", "",0⟩,⟨"Int",2,1,false, "", "",8⟩,⟨"Name",9,2,false, "", "",16⟩,⟨"Second",9,3,false, "", "",32⟩,⟨"Place",30,4,false, "", "",48⟩,⟨"Args",31,6,false, "", "",88⟩,⟨"At",3,7,false, "", "",112⟩],8,120,.agg #[.int .u8 0,.int .i64 0,.string ByteArray.empty,.string ByteArray.empty,.string ByteArray.empty,.slice none 0 0,.slice none 0 0,.int .i64 0],[.d (.int .u8 0),.d (.int .i64 0),.d (.str ByteArray.empty),.d (.str ByteArray.empty),.d (.str ByteArray.empty),.nils false 1,.nils true 8,.d (.int .i64 0)]⟩),
 (33,⟨.struct #[⟨"Op",5,0,false, "", "",0⟩,⟨"Int",2,1,false, "", "",8⟩,⟨"Name",9,2,false, "", "",16⟩,⟨"Second",9,3,false, "", "",32⟩,⟨"Place",30,4,false, "", "",48⟩,⟨"Args",31,6,false, "", "",88⟩,⟨"At",3,7,false, "", "",112⟩],8,120,.agg #[.int .u8 0,.int .i64 0,.string ByteArray.empty,.string ByteArray.empty,.string ByteArray.empty,.slice none 0 0,.slice none 0 0,.int .i64 0],[.d (.int .u8 0),.d (.int .i64 0),.d (.str ByteArray.empty),.d (.str ByteArray.empty),.d (.str ByteArray.empty),.nils false 1,.nils true 8,.d (.int .i64 0)]⟩),
 (34,⟨.func #[24] #[4] false,1,8,.nilFunc,[.nilf]⟩),
 (35,⟨.func #[27] #[4] false,1,8,.nilFunc,[.nilf]⟩),
 (36,⟨.func #[33] #[4] false,1,8,.nilFunc,[.nilf]⟩),
 (37,⟨.func #[24,24] #[4] false,1,8,.nilFunc,[.nilf]⟩),
 (38,⟨.func #[24,24,4] #[4] false,1,8,.nilFunc,[.nilf]⟩),
 (39,⟨.func #[27,27] #[4] false,1,8,.nilFunc,[.nilf]⟩),
 (40,⟨.func #[33,33] #[4] false,1,8,.nilFunc,[.nilf]⟩),
 (41,⟨.func #[33,33,4] #[4] false,1,8,.nilFunc,[.nilf]⟩),
 (42,⟨.func #[24,24,27,27,33,33] #[4] false,1,8,.nilFunc,[.nilf]⟩),
 (43,⟨.func #[24,4] #[24] false,1,8,.nilFunc,[.nilf]⟩),
 (44,⟨.func #[24] #[24] false,1,8,.nilFunc,[.nilf]⟩),
 (45,⟨.func #[24] #[] false,1,8,.nilFunc,[.nilf]⟩),
 (46,⟨.slice 49,1,24,.slice none 0 0,[.nils true 6]⟩),
 (47,⟨.slice 3,1,24,.slice none 0 0,[.nils false 1]⟩)]
def tabC3:List (Nat×TI):=[(48,⟨.struct #[⟨"Kind",5,0,false, "", "",0⟩,⟨"Int",2,1,false, "", "",8⟩,⟨"Name",9,2,false, "", "",16⟩,⟨"Fields",46,3,false, "", "",32⟩,⟨"ID",3,4,false, "", "",56⟩,⟨"Path",47,5,false, "", "",64⟩],6,88,.agg #[.int .u8 0,.int .i64 0,.string ByteArray.empty,.slice none 0 0,.int .i64 0,.slice none 0 0],[.d (.int .u8 0),.d (.int .i64 0),.d (.str ByteArray.empty),.nils true 6,.d (.int .i64 0),.nils false 1]⟩),
 (49,⟨.struct #[⟨"Kind",5,0,false, "", "",0⟩,⟨"Int",2,1,false, "", "",8⟩,⟨"Name",9,2,false, "", "",16⟩,⟨"Fields",46,3,false, "", "",32⟩,⟨"ID",3,4,false, "", "",56⟩,⟨"Path",47,5,false, "", "",64⟩],6,88,.agg #[.int .u8 0,.int .i64 0,.string ByteArray.empty,.slice none 0 0,.int .i64 0,.slice none 0 0],[.d (.int .u8 0),.d (.int .i64 0),.d (.str ByteArray.empty),.nils true 6,.d (.int .i64 0),.nils false 1]⟩),
 (50,⟨.func #[49,49,47] #[4] false,1,8,.nilFunc,[.nilf]⟩),
 (51,⟨.func #[49] #[49] false,1,8,.nilFunc,[.nilf]⟩),
 (53,⟨.func #[49,47] #[49,5] false,1,8,.nilFunc,[.nilf]⟩),
 (55,⟨.func #[49,47] #[49,3] false,1,8,.nilFunc,[.nilf]⟩),
 (56,⟨.func #[49,47,49] #[49,5] false,1,8,.nilFunc,[.nilf]⟩),
 (57,⟨.func #[49,47,49] #[49,3] false,1,8,.nilFunc,[.nilf]⟩),
 (58,⟨.func #[49,49] #[4] false,1,8,.nilFunc,[.nilf]⟩),
 (59,⟨.func #[49] #[] false,1,8,.nilFunc,[.nilf]⟩),
 (60,⟨.struct #[⟨"Kind",3,0,false, "", "",0⟩,⟨"ID",3,1,false, "", "",8⟩,⟨"Room",3,2,false, "", "",16⟩,⟨"V",49,3,false, "", "",24⟩],9,112,.agg #[.int .i64 0,.int .i64 0,.int .i64 0,.int .u8 0,.int .i64 0,.string ByteArray.empty,.slice none 0 0,.int .i64 0,.slice none 0 0],[.d (.int .i64 0),.d (.int .i64 0),.d (.int .i64 0),.d (.int .u8 0),.d (.int .i64 0),.d (.str ByteArray.empty),.nils true 6,.d (.int .i64 0),.nils false 1]⟩),
 (61,⟨.struct #[⟨"Kind",3,0,false, "", "",0⟩,⟨"ID",3,1,false, "", "",8⟩,⟨"Room",3,2,false, "", "",16⟩,⟨"V",49,3,false, "", "",24⟩],9,112,.agg #[.int .i64 0,.int .i64 0,.int .i64 0,.int .u8 0,.int .i64 0,.string ByteArray.empty,.slice none 0 0,.int .i64 0,.slice none 0 0],[.d (.int .i64 0),.d (.int .i64 0),.d (.int .i64 0),.d (.int .u8 0),.d (.int .i64 0),.d (.str ByteArray.empty),.nils true 6,.d (.int .i64 0),.nils false 1]⟩),
 (62,⟨.func #[63] #[4] false,1,8,.nilFunc,[.nilf]⟩),
 (63,⟨.slice 61,1,24,.slice none 0 0,[.nils true 9]⟩)]
def tabC4:List (Nat×TI):=[(64,⟨.pointer 67,1,8,.pointer none,[.nilp]⟩),
 (65,⟨.map 3 161,1,8,.map none,[.nilm]⟩),
 (66,⟨.struct #[⟨"m",65,0,false, "", "weftway/queues",0⟩],1,8,.agg #[.map none],[.nilm]⟩),
 (67,⟨.struct #[⟨"m",65,0,false, "", "weftway/queues",0⟩],1,8,.agg #[.map none],[.nilm]⟩),
 (68,⟨.slice 64,1,24,.slice none 0 0,[.nils false 1]⟩),
 (69,⟨.func #[3,3] #[] false,1,8,.nilFunc,[.nilf]⟩),
 (71,⟨.func #[3] #[49,4] false,1,8,.nilFunc,[.nilf]⟩),
 (72,⟨.func #[3,49] #[4] false,1,8,.nilFunc,[.nilf]⟩),
 (73,⟨.func #[3] #[4] false,1,8,.nilFunc,[.nilf]⟩),
 (74,⟨.func #[3] #[46] false,1,8,.nilFunc,[.nilf]⟩),
 (75,⟨.func #[61] #[4] false,1,8,.nilFunc,[.nilf]⟩),
 (76,⟨.func #[] #[64] false,1,8,.nilFunc,[.nilf]⟩),
 (77,⟨.pointer 80,1,8,.pointer none,[.nilp]⟩),
 (78,⟨.slice 171,1,24,.slice none 0 0,[.nils true 3]⟩),
 (79,⟨.struct #[⟨"L",78,0,false, "", "",0⟩],1,24,.agg #[.slice none 0 0],[.nils true 3]⟩)]
def tabC5:List (Nat×TI):=[(80,⟨.struct #[⟨"L",78,0,false, "", "",0⟩],1,24,.agg #[.slice none 0 0],[.nils true 3]⟩),
 (81,⟨.func #[64,77,61] #[4] false,1,8,.nilFunc,[.nilf]⟩),
 (82,⟨.func #[] #[4] false,1,8,.nilFunc,[.nilf]⟩),
 (83,⟨.func #[46,46] #[4] false,1,8,.nilFunc,[.nilf]⟩),
 (84,⟨.func #[3,63] #[4] false,1,8,.nilFunc,[.nilf]⟩),
 (85,⟨.func #[63,3] #[4] false,1,8,.nilFunc,[.nilf]⟩),
 (86,⟨.func #[2] #[49] false,1,8,.nilFunc,[.nilf]⟩),
 (87,⟨.func #[3,3] #[4] false,1,8,.nilFunc,[.nilf]⟩),
 (88,⟨.func #[3,3,3] #[4] false,1,8,.nilFunc,[.nilf]⟩),
 (89,⟨.struct #[⟨"Kind",3,0,false, "", "",0⟩,⟨"ID",3,1,false, "", "",8⟩,⟨"Path",47,2,false, "", "",16⟩,⟨"V",49,3,false, "", "",40⟩],9,128,.agg #[.int .i64 0,.int .i64 0,.slice none 0 0,.int .u8 0,.int .i64 0,.string ByteArray.empty,.slice none 0 0,.int .i64 0,.slice none 0 0],[.d (.int .i64 0),.d (.int .i64 0),.nils false 1,.d (.int .u8 0),.d (.int .i64 0),.d (.str ByteArray.empty),.nils true 6,.d (.int .i64 0),.nils false 1]⟩),
 (90,⟨.struct #[⟨"Kind",3,0,false, "", "",0⟩,⟨"ID",3,1,false, "", "",8⟩,⟨"Path",47,2,false, "", "",16⟩,⟨"V",49,3,false, "", "",40⟩],9,128,.agg #[.int .i64 0,.int .i64 0,.slice none 0 0,.int .u8 0,.int .i64 0,.string ByteArray.empty,.slice none 0 0,.int .i64 0,.slice none 0 0],[.d (.int .i64 0),.d (.int .i64 0),.nils false 1,.d (.int .u8 0),.d (.int .i64 0),.d (.str ByteArray.empty),.nils true 6,.d (.int .i64 0),.nils false 1]⟩),
 (91,⟨.func #[92] #[4] false,1,8,.nilFunc,[.nilf]⟩),
 (92,⟨.slice 90,1,24,.slice none 0 0,[.nils true 9]⟩),
 (93,⟨.pointer 96,1,8,.pointer none,[.nilp]⟩),
 (94,⟨.map 3 173,1,8,.map none,[.nilm]⟩),
 (95,⟨.struct #[⟨"cells",94,0,false, "", "weftway/heap",0⟩,⟨"left",3,1,false, "", "weftway/heap",8⟩],2,16,.agg #[.map none,.int .i64 0],[.nilm,.d (.int .i64 0)]⟩)]
def tabC6:List (Nat×TI):=[(96,⟨.struct #[⟨"cells",94,0,false, "", "weftway/heap",0⟩,⟨"left",3,1,false, "", "weftway/heap",8⟩],2,16,.agg #[.map none,.int .i64 0],[.nilm,.d (.int .i64 0)]⟩),
 (97,⟨.slice 93,1,24,.slice none 0 0,[.nils false 1]⟩),
 (98,⟨.int .i64,1,8,.int .i64 0,[.d (.int .i64 0)]⟩),
 (100,⟨.func #[49] #[3,98] false,1,8,.nilFunc,[.nilf]⟩),
 (101,⟨.func #[3,47] #[49,5] false,1,8,.nilFunc,[.nilf]⟩),
 (102,⟨.func #[3,47,49] #[49,5] false,1,8,.nilFunc,[.nilf]⟩),
 (103,⟨.func #[3] #[49,5] false,1,8,.nilFunc,[.nilf]⟩),
 (104,⟨.func #[3,47,49] #[5] false,1,8,.nilFunc,[.nilf]⟩),
 (105,⟨.func #[] #[3] false,1,8,.nilFunc,[.nilf]⟩),
 (106,⟨.func #[90] #[4] false,1,8,.nilFunc,[.nilf]⟩),
 (107,⟨.func #[] #[93] false,1,8,.nilFunc,[.nilf]⟩),
 (108,⟨.pointer 113,1,8,.pointer none,[.nilp]⟩),
 (109,⟨.func #[] #[108] false,1,8,.nilFunc,[.nilf]⟩),
 (110,⟨.func #[93,108,90] #[4] false,1,8,.nilFunc,[.nilf]⟩),
 (111,⟨.slice 183,1,24,.slice none 0 0,[.nils true 7]⟩)]
def tabC7:List (Nat×TI):=[(112,⟨.struct #[⟨"Cells",111,0,false, "", "",0⟩],1,24,.agg #[.slice none 0 0],[.nils true 7]⟩),
 (113,⟨.struct #[⟨"Cells",111,0,false, "", "",0⟩],1,24,.agg #[.slice none 0 0],[.nils true 7]⟩),
 (114,⟨.func #[3] #[3] false,1,8,.nilFunc,[.nilf]⟩),
 (115,⟨.func #[3,92] #[4] false,1,8,.nilFunc,[.nilf]⟩),
 (116,⟨.slice 4,1,24,.slice none 0 0,[.nils false 1]⟩),
 (118,⟨.func #[93] #[46,116] false,1,8,.nilFunc,[.nilf]⟩),
 (119,⟨.func #[93,90] #[4] false,1,8,.nilFunc,[.nilf]⟩),
 (120,⟨.pointer 122,1,8,.pointer none,[.nilp]⟩),
 (121,⟨.struct #[⟨"Left",3,0,false, "", "",0⟩],1,8,.agg #[.int .i64 0],[.d (.int .i64 0)]⟩),
 (122,⟨.struct #[⟨"Left",3,0,false, "", "",0⟩],1,8,.agg #[.int .i64 0],[.d (.int .i64 0)]⟩),
 (123,⟨.slice 136,1,24,.slice none 0 0,[.nils true 4]⟩),
 (124,⟨.slice 152,1,24,.slice none 0 0,[.nils true 15]⟩),
 (125,⟨.struct #[⟨"Kind",5,0,false, "", "",0⟩,⟨"Name",9,1,false, "", "",8⟩,⟨"Fields",123,2,false, "", "",24⟩,⟨"Result",27,3,false, "", "",48⟩,⟨"Body",124,6,false, "", "",96⟩,⟨"Return",33,7,false, "", "",120⟩,⟨"At",3,15,false, "", "",240⟩],16,248,.agg #[.int .u8 0,.string ByteArray.empty,.slice none 0 0,.int .u8 0,.string ByteArray.empty,.slice none 0 0,.slice none 0 0,.int .u8 0,.int .i64 0,.string ByteArray.empty,.string ByteArray.empty,.string ByteArray.empty,.slice none 0 0,.slice none 0 0,.int .i64 0,.int .i64 0],[.d (.int .u8 0),.d (.str ByteArray.empty),.nils true 4,.d (.int .u8 0),.d (.str ByteArray.empty),.nils true 3,.nils true 15,.d (.int .u8 0),.d (.int .i64 0),.d (.str ByteArray.empty),.d (.str ByteArray.empty),.d (.str ByteArray.empty),.nils false 1,.nils true 8,.d (.int .i64 0),.d (.int .i64 0)]⟩),
 (126,⟨.struct #[⟨"Kind",5,0,false, "", "",0⟩,⟨"Name",9,1,false, "", "",8⟩,⟨"Fields",123,2,false, "", "",24⟩,⟨"Result",27,3,false, "", "",48⟩,⟨"Body",124,6,false, "", "",96⟩,⟨"Return",33,7,false, "", "",120⟩,⟨"At",3,15,false, "", "",240⟩],16,248,.agg #[.int .u8 0,.string ByteArray.empty,.slice none 0 0,.int .u8 0,.string ByteArray.empty,.slice none 0 0,.slice none 0 0,.int .u8 0,.int .i64 0,.string ByteArray.empty,.string ByteArray.empty,.string ByteArray.empty,.slice none 0 0,.slice none 0 0,.int .i64 0,.int .i64 0],[.d (.int .u8 0),.d (.str ByteArray.empty),.nils true 4,.d (.int .u8 0),.d (.str ByteArray.empty),.nils true 3,.nils true 15,.d (.int .u8 0),.d (.int .i64 0),.d (.str ByteArray.empty),.d (.str ByteArray.empty),.d (.str ByteArray.empty),.nils false 1,.nils true 8,.d (.int .i64 0),.d (.int .i64 0)]⟩),
 (127,⟨.func #[9] #[] false,1,8,.nilFunc,[.nilf]⟩)]
def tabC8:List (Nat×TI):=[(128,⟨.func #[123] #[] false,1,8,.nilFunc,[.nilf]⟩),
 (129,⟨.func #[27] #[] false,1,8,.nilFunc,[.nilf]⟩),
 (130,⟨.func #[124] #[] false,1,8,.nilFunc,[.nilf]⟩),
 (131,⟨.func #[33] #[] false,1,8,.nilFunc,[.nilf]⟩),
 (132,⟨.func #[22,22,138] #[4] false,1,8,.nilFunc,[.nilf]⟩),
 (133,⟨.func #[124,124] #[4] false,1,8,.nilFunc,[.nilf]⟩),
 (134,⟨.func #[123,123,137] #[4] false,1,8,.nilFunc,[.nilf]⟩),
 (135,⟨.struct #[⟨"Name",9,0,false, "", "",0⟩,⟨"Type",27,1,false, "", "",16⟩],4,64,.agg #[.string ByteArray.empty,.int .u8 0,.string ByteArray.empty,.slice none 0 0],[.d (.str ByteArray.empty),.d (.int .u8 0),.d (.str ByteArray.empty),.nils true 3]⟩),
 (136,⟨.struct #[⟨"Name",9,0,false, "", "",0⟩,⟨"Type",27,1,false, "", "",16⟩],4,64,.agg #[.string ByteArray.empty,.int .u8 0,.string ByteArray.empty,.slice none 0 0],[.d (.str ByteArray.empty),.d (.int .u8 0),.d (.str ByteArray.empty),.nils true 3]⟩),
 (137,⟨.func #[136,136] #[4] false,1,8,.nilFunc,[.nilf]⟩),
 (138,⟨.func #[126,126] #[4] false,1,8,.nilFunc,[.nilf]⟩),
 (139,⟨.func #[123,123] #[4] false,1,8,.nilFunc,[.nilf]⟩),
 (140,⟨.func #[124,124,4] #[4] false,1,8,.nilFunc,[.nilf]⟩),
 (141,⟨.func #[25,25,39] #[4] false,1,8,.nilFunc,[.nilf]⟩),
 (142,⟨.func #[30,30] #[4] false,1,8,.nilFunc,[.nilf]⟩),
 (143,⟨.func #[31,31,40] #[4] false,1,8,.nilFunc,[.nilf]⟩)]
def tabC9:List (Nat×TI):=[(144,⟨.func #[31,31,4] #[4] false,1,8,.nilFunc,[.nilf]⟩),
 (145,⟨.func #[123] #[123] false,1,8,.nilFunc,[.nilf]⟩),
 (146,⟨.func #[27] #[27] false,1,8,.nilFunc,[.nilf]⟩),
 (147,⟨.func #[124,4] #[124] false,1,8,.nilFunc,[.nilf]⟩),
 (148,⟨.func #[33,4] #[33] false,1,8,.nilFunc,[.nilf]⟩),
 (149,⟨.func #[24,114] #[24] false,1,8,.nilFunc,[.nilf]⟩),
 (150,⟨.slice 154,1,24,.slice none 0 0,[.nils true 3]⟩),
 (151,⟨.struct #[⟨"Op",5,0,false, "", "",0⟩,⟨"Name",9,1,false, "", "",8⟩,⟨"Second",9,2,false, "", "",24⟩,⟨"Names",28,3,false, "", "",40⟩,⟨"Type",27,4,false, "", "",64⟩,⟨"Int",2,7,false, "", "",112⟩,⟨"Place",30,8,false, "", "",120⟩,⟨"Exprs",31,10,false, "", "",160⟩,⟨"Body",124,11,false, "", "",184⟩,⟨"Else",124,12,false, "", "",208⟩,⟨"Arms",150,13,false, "", "",232⟩,⟨"At",3,14,false, "", "",256⟩],15,264,.agg #[.int .u8 0,.string ByteArray.empty,.string ByteArray.empty,.slice none 0 0,.int .u8 0,.string ByteArray.empty,.slice none 0 0,.int .i64 0,.string ByteArray.empty,.slice none 0 0,.slice none 0 0,.slice none 0 0,.slice none 0 0,.slice none 0 0,.int .i64 0],[.d (.int .u8 0),.d (.str ByteArray.empty),.d (.str ByteArray.empty),.nils false 1,.d (.int .u8 0),.d (.str ByteArray.empty),.nils true 3,.d (.int .i64 0),.d (.str ByteArray.empty),.nils false 1,.nils true 8,.nils true 15,.nils true 15,.nils true 3,.d (.int .i64 0)]⟩),
 (152,⟨.struct #[⟨"Op",5,0,false, "", "",0⟩,⟨"Name",9,1,false, "", "",8⟩,⟨"Second",9,2,false, "", "",24⟩,⟨"Names",28,3,false, "", "",40⟩,⟨"Type",27,4,false, "", "",64⟩,⟨"Int",2,7,false, "", "",112⟩,⟨"Place",30,8,false, "", "",120⟩,⟨"Exprs",31,10,false, "", "",160⟩,⟨"Body",124,11,false, "", "",184⟩,⟨"Else",124,12,false, "", "",208⟩,⟨"Arms",150,13,false, "", "",232⟩,⟨"At",3,14,false, "", "",256⟩],15,264,.agg #[.int .u8 0,.string ByteArray.empty,.string ByteArray.empty,.slice none 0 0,.int .u8 0,.string ByteArray.empty,.slice none 0 0,.int .i64 0,.string ByteArray.empty,.slice none 0 0,.slice none 0 0,.slice none 0 0,.slice none 0 0,.slice none 0 0,.int .i64 0],[.d (.int .u8 0),.d (.str ByteArray.empty),.d (.str ByteArray.empty),.nils false 1,.d (.int .u8 0),.d (.str ByteArray.empty),.nils true 3,.d (.int .i64 0),.d (.str ByteArray.empty),.nils false 1,.nils true 8,.nils true 15,.nils true 15,.nils true 3,.d (.int .i64 0)]⟩),
 (153,⟨.struct #[⟨"Variant",9,0,false, "", "",0⟩,⟨"Name",9,1,false, "", "",16⟩,⟨"Body",124,2,false, "", "",32⟩],3,56,.agg #[.string ByteArray.empty,.string ByteArray.empty,.slice none 0 0],[.d (.str ByteArray.empty),.d (.str ByteArray.empty),.nils true 15]⟩),
 (154,⟨.struct #[⟨"Variant",9,0,false, "", "",0⟩,⟨"Name",9,1,false, "", "",16⟩,⟨"Body",124,2,false, "", "",32⟩],3,56,.agg #[.string ByteArray.empty,.string ByteArray.empty,.slice none 0 0],[.d (.str ByteArray.empty),.d (.str ByteArray.empty),.nils true 15]⟩),
 (155,⟨.func #[46,3] #[3] false,1,8,.nilFunc,[.nilf]⟩),
 (156,⟨.func #[46] #[46] false,1,8,.nilFunc,[.nilf]⟩),
 (157,⟨.func #[49,3] #[5] false,1,8,.nilFunc,[.nilf]⟩),
 (158,⟨.func #[49,3] #[3] false,1,8,.nilFunc,[.nilf]⟩),
 (159,⟨.func #[49,47] #[49] false,1,8,.nilFunc,[.nilf]⟩)]
def tabC10:List (Nat×TI):=[(160,⟨.func #[47,47] #[4] false,1,8,.nilFunc,[.nilf]⟩),
 (161,⟨.pointer 165,1,8,.pointer none,[.nilp]⟩),
 (162,⟨.func #[3] #[161] false,1,8,.nilFunc,[.nilf]⟩),
 (163,⟨.array 8 49,48,704,.agg #[.int .u8 0,.int .i64 0,.string ByteArray.empty,.slice none 0 0,.int .i64 0,.slice none 0 0,.int .u8 0,.int .i64 0,.string ByteArray.empty,.slice none 0 0,.int .i64 0,.slice none 0 0,.int .u8 0,.int .i64 0,.string ByteArray.empty,.slice none 0 0,.int .i64 0,.slice none 0 0,.int .u8 0,.int .i64 0,.string ByteArray.empty,.slice none 0 0,.int .i64 0,.slice none 0 0,.int .u8 0,.int .i64 0,.string ByteArray.empty,.slice none 0 0,.int .i64 0,.slice none 0 0,.int .u8 0,.int .i64 0,.string ByteArray.empty,.slice none 0 0,.int .i64 0,.slice none 0 0,.int .u8 0,.int .i64 0,.string ByteArray.empty,.slice none 0 0,.int .i64 0,.slice none 0 0,.int .u8 0,.int .i64 0,.string ByteArray.empty,.slice none 0 0,.int .i64 0,.slice none 0 0],[.d (.int .u8 0),.d (.int .i64 0),.d (.str ByteArray.empty),.nils true 6,.d (.int .i64 0),.nils false 1,.d (.int .u8 0),.d (.int .i64 0),.d (.str ByteArray.empty),.nils true 6,.d (.int .i64 0),.nils false 1,.d (.int .u8 0),.d (.int .i64 0),.d (.str ByteArray.empty),.nils true 6,.d (.int .i64 0),.nils false 1,.d (.int .u8 0),.d (.int .i64 0),.d (.str ByteArray.empty),.nils true 6,.d (.int .i64 0),.nils false 1,.d (.int .u8 0),.d (.int .i64 0),.d (.str ByteArray.empty),.nils true 6,.d (.int .i64 0),.nils false 1,.d (.int .u8 0),.d (.int .i64 0),.d (.str ByteArray.empty),.nils true 6,.d (.int .i64 0),.nils false 1,.d (.int .u8 0),.d (.int .i64 0),.d (.str ByteArray.empty),.nils true 6,.d (.int .i64 0),.nils false 1,.d (.int .u8 0),.d (.int .i64 0),.d (.str ByteArray.empty),.nils true 6,.d (.int .i64 0),.nils false 1]⟩),
 (164,⟨.struct #[⟨"room",3,0,false, "", "weftway/queues",0⟩,⟨"first",3,1,false, "", "weftway/queues",8⟩,⟨"n",3,2,false, "", "weftway/queues",16⟩,⟨"l",163,3,false, "", "weftway/queues",24⟩],51,728,.agg #[.int .i64 0,.int .i64 0,.int .i64 0,.int .u8 0,.int .i64 0,.string ByteArray.empty,.slice none 0 0,.int .i64 0,.slice none 0 0,.int .u8 0,.int .i64 0,.string ByteArray.empty,.slice none 0 0,.int .i64 0,.slice none 0 0,.int .u8 0,.int .i64 0,.string ByteArray.empty,.slice none 0 0,.int .i64 0,.slice none 0 0,.int .u8 0,.int .i64 0,.string ByteArray.empty,.slice none 0 0,.int .i64 0,.slice none 0 0,.int .u8 0,.int .i64 0,.string ByteArray.empty,.slice none 0 0,.int .i64 0,.slice none 0 0,.int .u8 0,.int .i64 0,.string ByteArray.empty,.slice none 0 0,.int .i64 0,.slice none 0 0,.int .u8 0,.int .i64 0,.string ByteArray.empty,.slice none 0 0,.int .i64 0,.slice none 0 0,.int .u8 0,.int .i64 0,.string ByteArray.empty,.slice none 0 0,.int .i64 0,.slice none 0 0],[.d (.int .i64 0),.d (.int .i64 0),.d (.int .i64 0),.d (.int .u8 0),.d (.int .i64 0),.d (.str ByteArray.empty),.nils true 6,.d (.int .i64 0),.nils false 1,.d (.int .u8 0),.d (.int .i64 0),.d (.str ByteArray.empty),.nils true 6,.d (.int .i64 0),.nils false 1,.d (.int .u8 0),.d (.int .i64 0),.d (.str ByteArray.empty),.nils true 6,.d (.int .i64 0),.nils false 1,.d (.int .u8 0),.d (.int .i64 0),.d (.str ByteArray.empty),.nils true 6,.d (.int .i64 0),.nils false 1,.d (.int .u8 0),.d (.int .i64 0),.d (.str ByteArray.empty),.nils true 6,.d (.int .i64 0),.nils false 1,.d (.int .u8 0),.d (.int .i64 0),.d (.str ByteArray.empty),.nils true 6,.d (.int .i64 0),.nils false 1,.d (.int .u8 0),.d (.int .i64 0),.d (.str ByteArray.empty),.nils true 6,.d (.int .i64 0),.nils false 1,.d (.int .u8 0),.d (.int .i64 0),.d (.str ByteArray.empty),.nils true 6,.d (.int .i64 0),.nils false 1]⟩),
 (165,⟨.struct #[⟨"room",3,0,false, "", "weftway/queues",0⟩,⟨"first",3,1,false, "", "weftway/queues",8⟩,⟨"n",3,2,false, "", "weftway/queues",16⟩,⟨"l",163,3,false, "", "weftway/queues",24⟩],51,728,.agg #[.int .i64 0,.int .i64 0,.int .i64 0,.int .u8 0,.int .i64 0,.string ByteArray.empty,.slice none 0 0,.int .i64 0,.slice none 0 0,.int .u8 0,.int .i64 0,.string ByteArray.empty,.slice none 0 0,.int .i64 0,.slice none 0 0,.int .u8 0,.int .i64 0,.string ByteArray.empty,.slice none 0 0,.int .i64 0,.slice none 0 0,.int .u8 0,.int .i64 0,.string ByteArray.empty,.slice none 0 0,.int .i64 0,.slice none 0 0,.int .u8 0,.int .i64 0,.string ByteArray.empty,.slice none 0 0,.int .i64 0,.slice none 0 0,.int .u8 0,.int .i64 0,.string ByteArray.empty,.slice none 0 0,.int .i64 0,.slice none 0 0,.int .u8 0,.int .i64 0,.string ByteArray.empty,.slice none 0 0,.int .i64 0,.slice none 0 0,.int .u8 0,.int .i64 0,.string ByteArray.empty,.slice none 0 0,.int .i64 0,.slice none 0 0],[.d (.int .i64 0),.d (.int .i64 0),.d (.int .i64 0),.d (.int .u8 0),.d (.int .i64 0),.d (.str ByteArray.empty),.nils true 6,.d (.int .i64 0),.nils false 1,.d (.int .u8 0),.d (.int .i64 0),.d (.str ByteArray.empty),.nils true 6,.d (.int .i64 0),.nils false 1,.d (.int .u8 0),.d (.int .i64 0),.d (.str ByteArray.empty),.nils true 6,.d (.int .i64 0),.nils false 1,.d (.int .u8 0),.d (.int .i64 0),.d (.str ByteArray.empty),.nils true 6,.d (.int .i64 0),.nils false 1,.d (.int .u8 0),.d (.int .i64 0),.d (.str ByteArray.empty),.nils true 6,.d (.int .i64 0),.nils false 1,.d (.int .u8 0),.d (.int .i64 0),.d (.str ByteArray.empty),.nils true 6,.d (.int .i64 0),.nils false 1,.d (.int .u8 0),.d (.int .i64 0),.d (.str ByteArray.empty),.nils true 6,.d (.int .i64 0),.nils false 1,.d (.int .u8 0),.d (.int .i64 0),.d (.str ByteArray.empty),.nils true 6,.d (.int .i64 0),.nils false 1]⟩),
 (166,⟨.func #[] #[49] false,1,8,.nilFunc,[.nilf]⟩),
 (167,⟨.func #[203] #[] false,1,8,.nilFunc,[.nilf]⟩),
 (168,⟨.func #[203] #[] false,1,8,.nilFunc,[.nilf]⟩),
 (169,⟨.func #[] #[168] false,1,8,.nilFunc,[.nilf]⟩),
 (170,⟨.struct #[⟨"ID",3,0,false, "", "",0⟩,⟨"Room",3,1,false, "", "",8⟩,⟨"L",46,2,false, "", "",16⟩],3,40,.agg #[.int .i64 0,.int .i64 0,.slice none 0 0],[.d (.int .i64 0),.d (.int .i64 0),.nils true 6]⟩),
 (171,⟨.struct #[⟨"ID",3,0,false, "", "",0⟩,⟨"Room",3,1,false, "", "",8⟩,⟨"L",46,2,false, "", "",16⟩],3,40,.agg #[.int .i64 0,.int .i64 0,.slice none 0 0],[.d (.int .i64 0),.d (.int .i64 0),.nils true 6]⟩),
 (172,⟨.struct #[⟨"v",49,0,false, "", "weftway/heap",0⟩,⟨"freed",4,6,false, "", "weftway/heap",88⟩],7,96,.agg #[.int .u8 0,.int .i64 0,.string ByteArray.empty,.slice none 0 0,.int .i64 0,.slice none 0 0,.bool false],[.d (.int .u8 0),.d (.int .i64 0),.d (.str ByteArray.empty),.nils true 6,.d (.int .i64 0),.nils false 1,.d (.bool false)]⟩),
 (173,⟨.struct #[⟨"v",49,0,false, "", "weftway/heap",0⟩,⟨"freed",4,6,false, "", "weftway/heap",88⟩],7,96,.agg #[.int .u8 0,.int .i64 0,.string ByteArray.empty,.slice none 0 0,.int .i64 0,.slice none 0 0,.bool false],[.d (.int .u8 0),.d (.int .i64 0),.d (.str ByteArray.empty),.nils true 6,.d (.int .i64 0),.nils false 1,.d (.bool false)]⟩),
 (174,⟨.func #[3,175] #[5] false,1,8,.nilFunc,[.nilf]⟩),
 (175,⟨.func #[49] #[49,5] false,1,8,.nilFunc,[.nilf]⟩)]
def tabC11:List (Nat×TI):=[(177,⟨.func #[49] #[3,3] false,1,8,.nilFunc,[.nilf]⟩),
 (178,⟨.func #[3,47] #[49,3] false,1,8,.nilFunc,[.nilf]⟩),
 (179,⟨.func #[3,47,49] #[3] false,1,8,.nilFunc,[.nilf]⟩),
 (180,⟨.func #[3,47,49] #[49,3] false,1,8,.nilFunc,[.nilf]⟩),
 (181,⟨.func #[3] #[49,3] false,1,8,.nilFunc,[.nilf]⟩),
 (182,⟨.struct #[⟨"V",49,0,false, "", "",0⟩,⟨"Freed",4,6,false, "", "",88⟩],7,96,.agg #[.int .u8 0,.int .i64 0,.string ByteArray.empty,.slice none 0 0,.int .i64 0,.slice none 0 0,.bool false],[.d (.int .u8 0),.d (.int .i64 0),.d (.str ByteArray.empty),.nils true 6,.d (.int .i64 0),.nils false 1,.d (.bool false)]⟩),
 (183,⟨.struct #[⟨"V",49,0,false, "", "",0⟩,⟨"Freed",4,6,false, "", "",88⟩],7,96,.agg #[.int .u8 0,.int .i64 0,.string ByteArray.empty,.slice none 0 0,.int .i64 0,.slice none 0 0,.bool false],[.d (.int .u8 0),.d (.int .i64 0),.d (.str ByteArray.empty),.nils true 6,.d (.int .i64 0),.nils false 1,.d (.bool false)]⟩),
 (184,⟨.func #[28] #[] false,1,8,.nilFunc,[.nilf]⟩),
 (185,⟨.func #[30] #[] false,1,8,.nilFunc,[.nilf]⟩),
 (186,⟨.func #[124,124,187] #[4] false,1,8,.nilFunc,[.nilf]⟩),
 (187,⟨.func #[152,152] #[4] false,1,8,.nilFunc,[.nilf]⟩),
 (188,⟨.func #[28,28] #[4] false,1,8,.nilFunc,[.nilf]⟩),
 (189,⟨.func #[30] #[30] false,1,8,.nilFunc,[.nilf]⟩),
 (190,⟨.func #[33] #[33] false,1,8,.nilFunc,[.nilf]⟩),
 (191,⟨.func #[152] #[152] false,1,8,.nilFunc,[.nilf]⟩)]
def tabC12:List (Nat×TI):=[(192,⟨.func #[25,146] #[25] false,1,8,.nilFunc,[.nilf]⟩),
 (193,⟨.func #[28] #[28] false,1,8,.nilFunc,[.nilf]⟩),
 (194,⟨.func #[31,190] #[31] false,1,8,.nilFunc,[.nilf]⟩),
 (195,⟨.func #[124,191] #[124] false,1,8,.nilFunc,[.nilf]⟩),
 (196,⟨.func #[154] #[154] false,1,8,.nilFunc,[.nilf]⟩),
 (197,⟨.func #[150,196] #[150] false,1,8,.nilFunc,[.nilf]⟩),
 (198,⟨.func #[136] #[136] false,1,8,.nilFunc,[.nilf]⟩),
 (199,⟨.func #[22,201] #[22] false,1,8,.nilFunc,[.nilf]⟩),
 (200,⟨.func #[123,198] #[123] false,1,8,.nilFunc,[.nilf]⟩),
 (201,⟨.func #[126] #[126] false,1,8,.nilFunc,[.nilf]⟩),
 (202,⟨.func #[47] #[47] false,1,8,.nilFunc,[.nilf]⟩),
 (203,⟨.func #[49] #[4] false,1,8,.nilFunc,[.nilf]⟩),
 (205,⟨.func #[150,150,206] #[4] false,1,8,.nilFunc,[.nilf]⟩),
 (206,⟨.func #[154,154] #[4] false,1,8,.nilFunc,[.nilf]⟩),
 (207,⟨.func #[] #[9] false,1,8,.nilFunc,[.nilf]⟩)]
def tabC13:List (Nat×TI):=[(208,⟨.struct #[⟨"_interface",17,0,false, "", "runtime",0⟩,⟨"concrete",17,1,false, "", "runtime",8⟩,⟨"asserted",17,2,false, "", "runtime",16⟩,⟨"missingMethod",9,3,false, "", "runtime",24⟩],4,40,.agg #[.pointer none,.pointer none,.pointer none,.string ByteArray.empty],[.nilp,.nilp,.nilp,.d (.str ByteArray.empty)]⟩),
 (209,⟨.struct #[⟨"_interface",17,0,false, "", "runtime",0⟩,⟨"concrete",17,1,false, "", "runtime",8⟩,⟨"asserted",17,2,false, "", "runtime",16⟩,⟨"missingMethod",9,3,false, "", "runtime",24⟩],4,40,.agg #[.pointer none,.pointer none,.pointer none,.string ByteArray.empty],[.nilp,.nilp,.nilp,.d (.str ByteArray.empty)]⟩),
 (213,⟨.int .u32,1,4,.int .u32 0,[.d (.int .u32 0)]⟩),
 (214,⟨.int .u8,1,1,.int .u8 0,[.d (.int .u8 0)]⟩),
 (215,⟨.int .u8,1,1,.int .u8 0,[.d (.int .u8 0)]⟩),
 (216,⟨.func #[222,222] #[4] false,1,8,.nilFunc,[.nilf]⟩),
 (217,⟨.pointer 5,1,8,.pointer none,[.nilp]⟩),
 (218,⟨.int .i32,1,4,.int .i32 0,[.d (.int .i32 0)]⟩),
 (219,⟨.int .i32,1,4,.int .i32 0,[.d (.int .i32 0)]⟩),
 (220,⟨.struct #[⟨"Size_",12,0,false, "", "",0⟩,⟨"PtrBytes",12,1,false, "", "",8⟩,⟨"Hash",213,2,false, "", "",16⟩,⟨"TFlag",214,3,false, "", "",20⟩,⟨"Align_",5,4,false, "", "",21⟩,⟨"FieldAlign_",5,5,false, "", "",22⟩,⟨"Kind_",215,6,false, "", "",23⟩,⟨"Equal",216,7,false, "", "",24⟩,⟨"GCData",217,8,false, "", "",32⟩,⟨"Str",218,9,false, "", "",40⟩,⟨"PtrToThis",219,10,false, "", "",44⟩],11,48,.agg #[.int .u64 0,.int .u64 0,.int .u32 0,.int .u8 0,.int .u8 0,.int .u8 0,.int .u8 0,.nilFunc,.pointer none,.int .i32 0,.int .i32 0],[.d (.int .u64 0),.d (.int .u64 0),.d (.int .u32 0),.d (.int .u8 0),.d (.int .u8 0),.d (.int .u8 0),.d (.int .u8 0),.nilf,.nilp,.d (.int .i32 0),.d (.int .i32 0)]⟩),
 (221,⟨.struct #[⟨"Size_",12,0,false, "", "",0⟩,⟨"PtrBytes",12,1,false, "", "",8⟩,⟨"Hash",213,2,false, "", "",16⟩,⟨"TFlag",214,3,false, "", "",20⟩,⟨"Align_",5,4,false, "", "",21⟩,⟨"FieldAlign_",5,5,false, "", "",22⟩,⟨"Kind_",215,6,false, "", "",23⟩,⟨"Equal",216,7,false, "", "",24⟩,⟨"GCData",217,8,false, "", "",32⟩,⟨"Str",218,9,false, "", "",40⟩,⟨"PtrToThis",219,10,false, "", "",44⟩],11,48,.agg #[.int .u64 0,.int .u64 0,.int .u32 0,.int .u8 0,.int .u8 0,.int .u8 0,.int .u8 0,.nilFunc,.pointer none,.int .i32 0,.int .i32 0],[.d (.int .u64 0),.d (.int .u64 0),.d (.int .u32 0),.d (.int .u8 0),.d (.int .u8 0),.d (.int .u8 0),.d (.int .u8 0),.nilf,.nilp,.d (.int .i32 0),.d (.int .i32 0)]⟩)]
def tabAll:List (List (Nat×TI)):=[tabC0,tabC1,tabC2,tabC3,tabC4,tabC5,tabC6,tabC7,tabC8,tabC9,tabC10,tabC11,tabC12,tabC13]
def tab:Types:=tabOf tabAll
theorem tabG0:allGood Try.prog tabC0:=⟨⟨by kernel_rfl,by kernel_rfl,by kernel_rfl⟩,⟨by kernel_rfl,by kernel_rfl,by kernel_rfl⟩,⟨by kernel_rfl,by kernel_rfl,by kernel_rfl⟩,⟨by kernel_rfl,by kernel_rfl,by kernel_rfl⟩,⟨by kernel_rfl,by kernel_rfl,by kernel_rfl⟩,⟨by kernel_rfl,by kernel_rfl,by kernel_rfl⟩,⟨by kernel_rfl,by kernel_rfl,by kernel_rfl⟩,⟨by kernel_rfl,by kernel_rfl,by kernel_rfl⟩,⟨by kernel_rfl,by kernel_rfl,by kernel_rfl⟩,⟨by kernel_rfl,by kernel_rfl,by kernel_rfl⟩,⟨by kernel_rfl,by kernel_rfl,by kernel_rfl⟩,⟨by kernel_rfl,by kernel_rfl,by kernel_rfl⟩,⟨by kernel_rfl,by kernel_rfl,by kernel_rfl⟩,⟨by kernel_rfl,by kernel_rfl,by kernel_rfl⟩,⟨by kernel_rfl,by kernel_rfl,by kernel_rfl⟩,trivial⟩
theorem tabG1:allGood Try.prog tabC1:=⟨⟨by kernel_rfl,by kernel_rfl,by kernel_rfl⟩,⟨by kernel_rfl,by kernel_rfl,by kernel_rfl⟩,⟨by kernel_rfl,by kernel_rfl,by kernel_rfl⟩,⟨by kernel_rfl,by kernel_rfl,by kernel_rfl⟩,⟨by kernel_rfl,by kernel_rfl,by kernel_rfl⟩,⟨by kernel_rfl,by kernel_rfl,by kernel_rfl⟩,⟨by kernel_rfl,by kernel_rfl,by kernel_rfl⟩,⟨by kernel_rfl,by kernel_rfl,by kernel_rfl⟩,⟨by kernel_rfl,by kernel_rfl,by kernel_rfl⟩,⟨by kernel_rfl,by kernel_rfl,by kernel_rfl⟩,⟨by kernel_rfl,by kernel_rfl,by kernel_rfl⟩,⟨by kernel_rfl,by kernel_rfl,by kernel_rfl⟩,⟨by kernel_rfl,by kernel_rfl,by kernel_rfl⟩,⟨by kernel_rfl,by kernel_rfl,by kernel_rfl⟩,⟨by kernel_rfl,by kernel_rfl,by kernel_rfl⟩,trivial⟩
theorem tabG2:allGood Try.prog tabC2:=⟨⟨by kernel_rfl,by kernel_rfl,by kernel_rfl⟩,⟨by kernel_rfl,by kernel_rfl,by kernel_rfl⟩,⟨by kernel_rfl,by kernel_rfl,by kernel_rfl⟩,⟨by kernel_rfl,by kernel_rfl,by kernel_rfl⟩,⟨by kernel_rfl,by kernel_rfl,by kernel_rfl⟩,⟨by kernel_rfl,by kernel_rfl,by kernel_rfl⟩,⟨by kernel_rfl,by kernel_rfl,by kernel_rfl⟩,⟨by kernel_rfl,by kernel_rfl,by kernel_rfl⟩,⟨by kernel_rfl,by kernel_rfl,by kernel_rfl⟩,⟨by kernel_rfl,by kernel_rfl,by kernel_rfl⟩,⟨by kernel_rfl,by kernel_rfl,by kernel_rfl⟩,⟨by kernel_rfl,by kernel_rfl,by kernel_rfl⟩,⟨by kernel_rfl,by kernel_rfl,by kernel_rfl⟩,⟨by kernel_rfl,by kernel_rfl,by kernel_rfl⟩,⟨by kernel_rfl,by kernel_rfl,by kernel_rfl⟩,⟨by kernel_rfl,by kernel_rfl,by kernel_rfl⟩,trivial⟩
theorem tabG3:allGood Try.prog tabC3:=⟨⟨by kernel_rfl,by kernel_rfl,by kernel_rfl⟩,⟨by kernel_rfl,by kernel_rfl,by kernel_rfl⟩,⟨by kernel_rfl,by kernel_rfl,by kernel_rfl⟩,⟨by kernel_rfl,by kernel_rfl,by kernel_rfl⟩,⟨by kernel_rfl,by kernel_rfl,by kernel_rfl⟩,⟨by kernel_rfl,by kernel_rfl,by kernel_rfl⟩,⟨by kernel_rfl,by kernel_rfl,by kernel_rfl⟩,⟨by kernel_rfl,by kernel_rfl,by kernel_rfl⟩,⟨by kernel_rfl,by kernel_rfl,by kernel_rfl⟩,⟨by kernel_rfl,by kernel_rfl,by kernel_rfl⟩,⟨by kernel_rfl,by kernel_rfl,by kernel_rfl⟩,⟨by kernel_rfl,by kernel_rfl,by kernel_rfl⟩,⟨by kernel_rfl,by kernel_rfl,by kernel_rfl⟩,⟨by kernel_rfl,by kernel_rfl,by kernel_rfl⟩,trivial⟩
theorem tabG4:allGood Try.prog tabC4:=⟨⟨by kernel_rfl,by kernel_rfl,by kernel_rfl⟩,⟨by kernel_rfl,by kernel_rfl,by kernel_rfl⟩,⟨by kernel_rfl,by kernel_rfl,by kernel_rfl⟩,⟨by kernel_rfl,by kernel_rfl,by kernel_rfl⟩,⟨by kernel_rfl,by kernel_rfl,by kernel_rfl⟩,⟨by kernel_rfl,by kernel_rfl,by kernel_rfl⟩,⟨by kernel_rfl,by kernel_rfl,by kernel_rfl⟩,⟨by kernel_rfl,by kernel_rfl,by kernel_rfl⟩,⟨by kernel_rfl,by kernel_rfl,by kernel_rfl⟩,⟨by kernel_rfl,by kernel_rfl,by kernel_rfl⟩,⟨by kernel_rfl,by kernel_rfl,by kernel_rfl⟩,⟨by kernel_rfl,by kernel_rfl,by kernel_rfl⟩,⟨by kernel_rfl,by kernel_rfl,by kernel_rfl⟩,⟨by kernel_rfl,by kernel_rfl,by kernel_rfl⟩,⟨by kernel_rfl,by kernel_rfl,by kernel_rfl⟩,trivial⟩
theorem tabG5:allGood Try.prog tabC5:=⟨⟨by kernel_rfl,by kernel_rfl,by kernel_rfl⟩,⟨by kernel_rfl,by kernel_rfl,by kernel_rfl⟩,⟨by kernel_rfl,by kernel_rfl,by kernel_rfl⟩,⟨by kernel_rfl,by kernel_rfl,by kernel_rfl⟩,⟨by kernel_rfl,by kernel_rfl,by kernel_rfl⟩,⟨by kernel_rfl,by kernel_rfl,by kernel_rfl⟩,⟨by kernel_rfl,by kernel_rfl,by kernel_rfl⟩,⟨by kernel_rfl,by kernel_rfl,by kernel_rfl⟩,⟨by kernel_rfl,by kernel_rfl,by kernel_rfl⟩,⟨by kernel_rfl,by kernel_rfl,by kernel_rfl⟩,⟨by kernel_rfl,by kernel_rfl,by kernel_rfl⟩,⟨by kernel_rfl,by kernel_rfl,by kernel_rfl⟩,⟨by kernel_rfl,by kernel_rfl,by kernel_rfl⟩,⟨by kernel_rfl,by kernel_rfl,by kernel_rfl⟩,⟨by kernel_rfl,by kernel_rfl,by kernel_rfl⟩,⟨by kernel_rfl,by kernel_rfl,by kernel_rfl⟩,trivial⟩
theorem tabG6:allGood Try.prog tabC6:=⟨⟨by kernel_rfl,by kernel_rfl,by kernel_rfl⟩,⟨by kernel_rfl,by kernel_rfl,by kernel_rfl⟩,⟨by kernel_rfl,by kernel_rfl,by kernel_rfl⟩,⟨by kernel_rfl,by kernel_rfl,by kernel_rfl⟩,⟨by kernel_rfl,by kernel_rfl,by kernel_rfl⟩,⟨by kernel_rfl,by kernel_rfl,by kernel_rfl⟩,⟨by kernel_rfl,by kernel_rfl,by kernel_rfl⟩,⟨by kernel_rfl,by kernel_rfl,by kernel_rfl⟩,⟨by kernel_rfl,by kernel_rfl,by kernel_rfl⟩,⟨by kernel_rfl,by kernel_rfl,by kernel_rfl⟩,⟨by kernel_rfl,by kernel_rfl,by kernel_rfl⟩,⟨by kernel_rfl,by kernel_rfl,by kernel_rfl⟩,⟨by kernel_rfl,by kernel_rfl,by kernel_rfl⟩,⟨by kernel_rfl,by kernel_rfl,by kernel_rfl⟩,⟨by kernel_rfl,by kernel_rfl,by kernel_rfl⟩,trivial⟩
theorem tabG7:allGood Try.prog tabC7:=⟨⟨by kernel_rfl,by kernel_rfl,by kernel_rfl⟩,⟨by kernel_rfl,by kernel_rfl,by kernel_rfl⟩,⟨by kernel_rfl,by kernel_rfl,by kernel_rfl⟩,⟨by kernel_rfl,by kernel_rfl,by kernel_rfl⟩,⟨by kernel_rfl,by kernel_rfl,by kernel_rfl⟩,⟨by kernel_rfl,by kernel_rfl,by kernel_rfl⟩,⟨by kernel_rfl,by kernel_rfl,by kernel_rfl⟩,⟨by kernel_rfl,by kernel_rfl,by kernel_rfl⟩,⟨by kernel_rfl,by kernel_rfl,by kernel_rfl⟩,⟨by kernel_rfl,by kernel_rfl,by kernel_rfl⟩,⟨by kernel_rfl,by kernel_rfl,by kernel_rfl⟩,⟨by kernel_rfl,by kernel_rfl,by kernel_rfl⟩,⟨by kernel_rfl,by kernel_rfl,by kernel_rfl⟩,⟨by kernel_rfl,by kernel_rfl,by kernel_rfl⟩,⟨by kernel_rfl,by kernel_rfl,by kernel_rfl⟩,trivial⟩
theorem tabG8:allGood Try.prog tabC8:=⟨⟨by kernel_rfl,by kernel_rfl,by kernel_rfl⟩,⟨by kernel_rfl,by kernel_rfl,by kernel_rfl⟩,⟨by kernel_rfl,by kernel_rfl,by kernel_rfl⟩,⟨by kernel_rfl,by kernel_rfl,by kernel_rfl⟩,⟨by kernel_rfl,by kernel_rfl,by kernel_rfl⟩,⟨by kernel_rfl,by kernel_rfl,by kernel_rfl⟩,⟨by kernel_rfl,by kernel_rfl,by kernel_rfl⟩,⟨by kernel_rfl,by kernel_rfl,by kernel_rfl⟩,⟨by kernel_rfl,by kernel_rfl,by kernel_rfl⟩,⟨by kernel_rfl,by kernel_rfl,by kernel_rfl⟩,⟨by kernel_rfl,by kernel_rfl,by kernel_rfl⟩,⟨by kernel_rfl,by kernel_rfl,by kernel_rfl⟩,⟨by kernel_rfl,by kernel_rfl,by kernel_rfl⟩,⟨by kernel_rfl,by kernel_rfl,by kernel_rfl⟩,⟨by kernel_rfl,by kernel_rfl,by kernel_rfl⟩,⟨by kernel_rfl,by kernel_rfl,by kernel_rfl⟩,trivial⟩
theorem tabG9:allGood Try.prog tabC9:=⟨⟨by kernel_rfl,by kernel_rfl,by kernel_rfl⟩,⟨by kernel_rfl,by kernel_rfl,by kernel_rfl⟩,⟨by kernel_rfl,by kernel_rfl,by kernel_rfl⟩,⟨by kernel_rfl,by kernel_rfl,by kernel_rfl⟩,⟨by kernel_rfl,by kernel_rfl,by kernel_rfl⟩,⟨by kernel_rfl,by kernel_rfl,by kernel_rfl⟩,⟨by kernel_rfl,by kernel_rfl,by kernel_rfl⟩,⟨by kernel_rfl,by kernel_rfl,by kernel_rfl⟩,⟨by kernel_rfl,by kernel_rfl,by kernel_rfl⟩,⟨by kernel_rfl,by kernel_rfl,by kernel_rfl⟩,⟨by kernel_rfl,by kernel_rfl,by kernel_rfl⟩,⟨by kernel_rfl,by kernel_rfl,by kernel_rfl⟩,⟨by kernel_rfl,by kernel_rfl,by kernel_rfl⟩,⟨by kernel_rfl,by kernel_rfl,by kernel_rfl⟩,⟨by kernel_rfl,by kernel_rfl,by kernel_rfl⟩,⟨by kernel_rfl,by kernel_rfl,by kernel_rfl⟩,trivial⟩
theorem tabG10:allGood Try.prog tabC10:=⟨⟨by kernel_rfl,by kernel_rfl,by kernel_rfl⟩,⟨by kernel_rfl,by kernel_rfl,by kernel_rfl⟩,⟨by kernel_rfl,by kernel_rfl,by kernel_rfl⟩,⟨by kernel_rfl,by kernel_rfl,by kernel_rfl⟩,⟨by kernel_rfl,by kernel_rfl,by kernel_rfl⟩,⟨by kernel_rfl,by kernel_rfl,by kernel_rfl⟩,⟨by kernel_rfl,by kernel_rfl,by kernel_rfl⟩,⟨by kernel_rfl,by kernel_rfl,by kernel_rfl⟩,⟨by kernel_rfl,by kernel_rfl,by kernel_rfl⟩,⟨by kernel_rfl,by kernel_rfl,by kernel_rfl⟩,⟨by kernel_rfl,by kernel_rfl,by kernel_rfl⟩,⟨by kernel_rfl,by kernel_rfl,by kernel_rfl⟩,⟨by kernel_rfl,by kernel_rfl,by kernel_rfl⟩,⟨by kernel_rfl,by kernel_rfl,by kernel_rfl⟩,⟨by kernel_rfl,by kernel_rfl,by kernel_rfl⟩,⟨by kernel_rfl,by kernel_rfl,by kernel_rfl⟩,trivial⟩
theorem tabG11:allGood Try.prog tabC11:=⟨⟨by kernel_rfl,by kernel_rfl,by kernel_rfl⟩,⟨by kernel_rfl,by kernel_rfl,by kernel_rfl⟩,⟨by kernel_rfl,by kernel_rfl,by kernel_rfl⟩,⟨by kernel_rfl,by kernel_rfl,by kernel_rfl⟩,⟨by kernel_rfl,by kernel_rfl,by kernel_rfl⟩,⟨by kernel_rfl,by kernel_rfl,by kernel_rfl⟩,⟨by kernel_rfl,by kernel_rfl,by kernel_rfl⟩,⟨by kernel_rfl,by kernel_rfl,by kernel_rfl⟩,⟨by kernel_rfl,by kernel_rfl,by kernel_rfl⟩,⟨by kernel_rfl,by kernel_rfl,by kernel_rfl⟩,⟨by kernel_rfl,by kernel_rfl,by kernel_rfl⟩,⟨by kernel_rfl,by kernel_rfl,by kernel_rfl⟩,⟨by kernel_rfl,by kernel_rfl,by kernel_rfl⟩,⟨by kernel_rfl,by kernel_rfl,by kernel_rfl⟩,⟨by kernel_rfl,by kernel_rfl,by kernel_rfl⟩,trivial⟩
theorem tabG12:allGood Try.prog tabC12:=⟨⟨by kernel_rfl,by kernel_rfl,by kernel_rfl⟩,⟨by kernel_rfl,by kernel_rfl,by kernel_rfl⟩,⟨by kernel_rfl,by kernel_rfl,by kernel_rfl⟩,⟨by kernel_rfl,by kernel_rfl,by kernel_rfl⟩,⟨by kernel_rfl,by kernel_rfl,by kernel_rfl⟩,⟨by kernel_rfl,by kernel_rfl,by kernel_rfl⟩,⟨by kernel_rfl,by kernel_rfl,by kernel_rfl⟩,⟨by kernel_rfl,by kernel_rfl,by kernel_rfl⟩,⟨by kernel_rfl,by kernel_rfl,by kernel_rfl⟩,⟨by kernel_rfl,by kernel_rfl,by kernel_rfl⟩,⟨by kernel_rfl,by kernel_rfl,by kernel_rfl⟩,⟨by kernel_rfl,by kernel_rfl,by kernel_rfl⟩,⟨by kernel_rfl,by kernel_rfl,by kernel_rfl⟩,⟨by kernel_rfl,by kernel_rfl,by kernel_rfl⟩,⟨by kernel_rfl,by kernel_rfl,by kernel_rfl⟩,trivial⟩
theorem tabG13:allGood Try.prog tabC13:=⟨⟨by kernel_rfl,by kernel_rfl,by kernel_rfl⟩,⟨by kernel_rfl,by kernel_rfl,by kernel_rfl⟩,⟨by kernel_rfl,by kernel_rfl,by kernel_rfl⟩,⟨by kernel_rfl,by kernel_rfl,by kernel_rfl⟩,⟨by kernel_rfl,by kernel_rfl,by kernel_rfl⟩,⟨by kernel_rfl,by kernel_rfl,by kernel_rfl⟩,⟨by kernel_rfl,by kernel_rfl,by kernel_rfl⟩,⟨by kernel_rfl,by kernel_rfl,by kernel_rfl⟩,⟨by kernel_rfl,by kernel_rfl,by kernel_rfl⟩,⟨by kernel_rfl,by kernel_rfl,by kernel_rfl⟩,⟨by kernel_rfl,by kernel_rfl,by kernel_rfl⟩,trivial⟩
theorem tab_all:allGoods Try.prog tabAll:=⟨tabG0,tabG1,tabG2,tabG3,tabG4,tabG5,tabG6,tabG7,tabG8,tabG9,tabG10,tabG11,tabG12,tabG13,trivial⟩
theorem tab_ok:TIok Try.prog tab:=tabOf_ok tab_all
theorem tab_one:TIone tab:=tabOf_one tab_all
end Go.Proofs.Ytiiojajgajnhpaa
set_option linter.unusedVariables false
noncomputable section
namespace Go.Proofs.Ytiiojajgajnhpaa
open Go Go.AM
theorem llen1 {l:List D}(h:l.length=1):∃x0,l=[x0]:=by
 match l,h with
 | [x0],_=>exact⟨x0,rfl⟩
theorem llen3 {l:List D}(h:l.length=3):∃x0 x1 x2,l=[x0,x1,x2]:=by
 match l,h with
 | [x0,x1,x2],_=>exact⟨x0,x1,x2,rfl⟩
theorem llen4 {l:List D}(h:l.length=4):∃x0 x1 x2 x3,l=[x0,x1,x2,x3]:=by
 match l,h with
 | [x0,x1,x2,x3],_=>exact⟨x0,x1,x2,x3,rfl⟩
theorem llen8 {l:List D}(h:l.length=8):∃x0 x1 x2 x3 x4 x5 x6 x7,l=[x0,x1,x2,x3,x4,x5,x6,x7]:=by
 match l,h with
 | [x0,x1,x2,x3,x4,x5,x6,x7],_=>exact⟨x0,x1,x2,x3,x4,x5,x6,x7,rfl⟩
theorem llen15 {l:List D}(h:l.length=15):∃x0 x1 x2 x3 x4 x5 x6 x7 x8 x9 x10 x11 x12 x13 x14,l=[x0,x1,x2,x3,x4,x5,x6,x7,x8,x9,x10,x11,x12,x13,x14]:=by
 match l,h with
 | [x0,x1,x2,x3,x4,x5,x6,x7,x8,x9,x10,x11,x12,x13,x14],_=>exact⟨x0,x1,x2,x3,x4,x5,x6,x7,x8,x9,x10,x11,x12,x13,x14,rfl⟩
theorem llen16 {l:List D}(h:l.length=16):∃x0 x1 x2 x3 x4 x5 x6 x7 x8 x9 x10 x11 x12 x13 x14 x15,l=[x0,x1,x2,x3,x4,x5,x6,x7,x8,x9,x10,x11,x12,x13,x14,x15]:=by
 match l,h with
 | [x0,x1,x2,x3,x4,x5,x6,x7,x8,x9,x10,x11,x12,x13,x14,x15],_=>exact⟨x0,x1,x2,x3,x4,x5,x6,x7,x8,x9,x10,x11,x12,x13,x14,x15,rfl⟩
theorem rs9 {x:D}(h:RowS tab 9 x):∃a0,x= .str a0∧a0.size≤maxLen:=by
 have hs:=h.flat1 (y:=tyD tab 9) (by kernel_rfl) rfl
 have hl:=hs.flat 9 9 [9] [x] (by kernel_rfl)
 obtain⟨a0,rfl,w0⟩:=(hl.2 0 x 9 rfl rfl).strS (x:=tyD tab 9) (by kernel_rfl) rfl
 exact⟨_,rfl,w0⟩
theorem rs24 {x:D}(h:RowS tab 24 x):∃a0,x= .agg [.list true 16 a0]∧ListS tab 126 a0:=by
 obtain⟨cs,rfl,hs⟩:=h.agg (y:=tyD tab 24) (by kernel_rfl) rfl
 have hl:=hs.flat 9 24 [22] cs (by kernel_rfl)
 obtain⟨b0,rfl⟩:=llen1 hl.1
 obtain⟨a0,e0,w0⟩:=(hl.2 0 b0 22 rfl rfl).listS (x:=tyD tab 22) (y:=tyD tab 126) (by kernel_rfl) rfl (by kernel_rfl)
 obtain rfl:b0= .list true 16 a0:=e0
 exact⟨_,rfl,w0⟩
theorem rs27 {x:D}(h:RowS tab 27 x):∃a0 a1 a2,x= .agg [.int .u8 a0,.str a1,.list true 3 a2]∧(Lit.int .u8 a0).wf=true∧a1.size≤maxLen∧ListS tab 27 a2:=by
 obtain⟨cs,rfl,hs⟩:=h.agg (y:=tyD tab 27) (by kernel_rfl) rfl
 have hl:=hs.flat 9 27 [5,9,25] cs (by kernel_rfl)
 obtain⟨b0,b1,b2,rfl⟩:=llen3 hl.1
 obtain⟨a0,rfl,w0⟩:=(hl.2 0 b0 5 rfl rfl).intS (x:=tyD tab 5) (by kernel_rfl) rfl
 obtain⟨a1,rfl,w1⟩:=(hl.2 1 b1 9 rfl rfl).strS (x:=tyD tab 9) (by kernel_rfl) rfl
 obtain⟨a2,e2,w2⟩:=(hl.2 2 b2 25 rfl rfl).listS (x:=tyD tab 25) (y:=tyD tab 27) (by kernel_rfl) rfl (by kernel_rfl)
 obtain rfl:b2= .list true 3 a2:=e2
 exact⟨_,_,_,rfl,w0,w1,w2⟩
theorem rs33 {x:D}(h:RowS tab 33 x):∃a0 a1 a2 a3 a4 a5 a6 a7,x= .agg [.int .u8 a0,.int .i64 a1,.str a2,.str a3,.str a4,.list false 1 a5,.list true 8 a6,.int .i64 a7]∧(Lit.int .u8 a0).wf=true∧(Lit.int .i64 a1).wf=true∧a2.size≤maxLen∧a3.size≤maxLen∧a4.size≤maxLen∧ListS tab 9 a5∧ListS tab 33 a6∧(Lit.int .i64 a7).wf=true:=by
 obtain⟨cs,rfl,hs⟩:=h.agg (y:=tyD tab 33) (by kernel_rfl) rfl
 have hl:=hs.flat 9 33 [5,2,9,9,9,28,31,3] cs (by kernel_rfl)
 obtain⟨b0,b1,b2,b3,b4,b5,b6,b7,rfl⟩:=llen8 hl.1
 obtain⟨a0,rfl,w0⟩:=(hl.2 0 b0 5 rfl rfl).intS (x:=tyD tab 5) (by kernel_rfl) rfl
 obtain⟨a1,rfl,w1⟩:=(hl.2 1 b1 2 rfl rfl).intS (x:=tyD tab 2) (by kernel_rfl) rfl
 obtain⟨a2,rfl,w2⟩:=(hl.2 2 b2 9 rfl rfl).strS (x:=tyD tab 9) (by kernel_rfl) rfl
 obtain⟨a3,rfl,w3⟩:=(hl.2 3 b3 9 rfl rfl).strS (x:=tyD tab 9) (by kernel_rfl) rfl
 obtain⟨a4,rfl,w4⟩:=(hl.2 4 b4 9 rfl rfl).strS (x:=tyD tab 9) (by kernel_rfl) rfl
 obtain⟨a5,e5,w5⟩:=(hl.2 5 b5 28 rfl rfl).listS (x:=tyD tab 28) (y:=tyD tab 9) (by kernel_rfl) rfl (by kernel_rfl)
 obtain rfl:b5= .list false 1 a5:=e5
 obtain⟨a6,e6,w6⟩:=(hl.2 6 b6 31 rfl rfl).listS (x:=tyD tab 31) (y:=tyD tab 33) (by kernel_rfl) rfl (by kernel_rfl)
 obtain rfl:b6= .list true 8 a6:=e6
 obtain⟨a7,rfl,w7⟩:=(hl.2 7 b7 3 rfl rfl).intS (x:=tyD tab 3) (by kernel_rfl) rfl
 exact⟨_,_,_,_,_,_,_,_,rfl,w0,w1,w2,w3,w4,w5,w6,w7⟩
theorem rs126 {x:D}(h:RowS tab 126 x):∃a0 a1 a2 a3 a4 a5 a6 a7 a8 a9 a10 a11 a12 a13 a14 a15,x= .agg [.int .u8 a0,.str a1,.list true 4 a2,.int .u8 a3,.str a4,.list true 3 a5,.list true 15 a6,.int .u8 a7,.int .i64 a8,.str a9,.str a10,.str a11,.list false 1 a12,.list true 8 a13,.int .i64 a14,.int .i64 a15]∧(Lit.int .u8 a0).wf=true∧a1.size≤maxLen∧ListS tab 136 a2∧(Lit.int .u8 a3).wf=true∧a4.size≤maxLen∧ListS tab 27 a5∧ListS tab 152 a6∧(Lit.int .u8 a7).wf=true∧(Lit.int .i64 a8).wf=true∧a9.size≤maxLen∧a10.size≤maxLen∧a11.size≤maxLen∧ListS tab 9 a12∧ListS tab 33 a13∧(Lit.int .i64 a14).wf=true∧(Lit.int .i64 a15).wf=true:=by
 obtain⟨cs,rfl,hs⟩:=h.agg (y:=tyD tab 126) (by kernel_rfl) rfl
 have hl:=hs.flat 9 126 [5,9,123,5,9,25,124,5,2,9,9,9,28,31,3,3] cs (by kernel_rfl)
 obtain⟨b0,b1,b2,b3,b4,b5,b6,b7,b8,b9,b10,b11,b12,b13,b14,b15,rfl⟩:=llen16 hl.1
 obtain⟨a0,rfl,w0⟩:=(hl.2 0 b0 5 rfl rfl).intS (x:=tyD tab 5) (by kernel_rfl) rfl
 obtain⟨a1,rfl,w1⟩:=(hl.2 1 b1 9 rfl rfl).strS (x:=tyD tab 9) (by kernel_rfl) rfl
 obtain⟨a2,e2,w2⟩:=(hl.2 2 b2 123 rfl rfl).listS (x:=tyD tab 123) (y:=tyD tab 136) (by kernel_rfl) rfl (by kernel_rfl)
 obtain rfl:b2= .list true 4 a2:=e2
 obtain⟨a3,rfl,w3⟩:=(hl.2 3 b3 5 rfl rfl).intS (x:=tyD tab 5) (by kernel_rfl) rfl
 obtain⟨a4,rfl,w4⟩:=(hl.2 4 b4 9 rfl rfl).strS (x:=tyD tab 9) (by kernel_rfl) rfl
 obtain⟨a5,e5,w5⟩:=(hl.2 5 b5 25 rfl rfl).listS (x:=tyD tab 25) (y:=tyD tab 27) (by kernel_rfl) rfl (by kernel_rfl)
 obtain rfl:b5= .list true 3 a5:=e5
 obtain⟨a6,e6,w6⟩:=(hl.2 6 b6 124 rfl rfl).listS (x:=tyD tab 124) (y:=tyD tab 152) (by kernel_rfl) rfl (by kernel_rfl)
 obtain rfl:b6= .list true 15 a6:=e6
 obtain⟨a7,rfl,w7⟩:=(hl.2 7 b7 5 rfl rfl).intS (x:=tyD tab 5) (by kernel_rfl) rfl
 obtain⟨a8,rfl,w8⟩:=(hl.2 8 b8 2 rfl rfl).intS (x:=tyD tab 2) (by kernel_rfl) rfl
 obtain⟨a9,rfl,w9⟩:=(hl.2 9 b9 9 rfl rfl).strS (x:=tyD tab 9) (by kernel_rfl) rfl
 obtain⟨a10,rfl,w10⟩:=(hl.2 10 b10 9 rfl rfl).strS (x:=tyD tab 9) (by kernel_rfl) rfl
 obtain⟨a11,rfl,w11⟩:=(hl.2 11 b11 9 rfl rfl).strS (x:=tyD tab 9) (by kernel_rfl) rfl
 obtain⟨a12,e12,w12⟩:=(hl.2 12 b12 28 rfl rfl).listS (x:=tyD tab 28) (y:=tyD tab 9) (by kernel_rfl) rfl (by kernel_rfl)
 obtain rfl:b12= .list false 1 a12:=e12
 obtain⟨a13,e13,w13⟩:=(hl.2 13 b13 31 rfl rfl).listS (x:=tyD tab 31) (y:=tyD tab 33) (by kernel_rfl) rfl (by kernel_rfl)
 obtain rfl:b13= .list true 8 a13:=e13
 obtain⟨a14,rfl,w14⟩:=(hl.2 14 b14 3 rfl rfl).intS (x:=tyD tab 3) (by kernel_rfl) rfl
 obtain⟨a15,rfl,w15⟩:=(hl.2 15 b15 3 rfl rfl).intS (x:=tyD tab 3) (by kernel_rfl) rfl
 exact⟨_,_,_,_,_,_,_,_,_,_,_,_,_,_,_,_,rfl,w0,w1,w2,w3,w4,w5,w6,w7,w8,w9,w10,w11,w12,w13,w14,w15⟩
theorem rs136 {x:D}(h:RowS tab 136 x):∃a0 a1 a2 a3,x= .agg [.str a0,.int .u8 a1,.str a2,.list true 3 a3]∧a0.size≤maxLen∧(Lit.int .u8 a1).wf=true∧a2.size≤maxLen∧ListS tab 27 a3:=by
 obtain⟨cs,rfl,hs⟩:=h.agg (y:=tyD tab 136) (by kernel_rfl) rfl
 have hl:=hs.flat 9 136 [9,5,9,25] cs (by kernel_rfl)
 obtain⟨b0,b1,b2,b3,rfl⟩:=llen4 hl.1
 obtain⟨a0,rfl,w0⟩:=(hl.2 0 b0 9 rfl rfl).strS (x:=tyD tab 9) (by kernel_rfl) rfl
 obtain⟨a1,rfl,w1⟩:=(hl.2 1 b1 5 rfl rfl).intS (x:=tyD tab 5) (by kernel_rfl) rfl
 obtain⟨a2,rfl,w2⟩:=(hl.2 2 b2 9 rfl rfl).strS (x:=tyD tab 9) (by kernel_rfl) rfl
 obtain⟨a3,e3,w3⟩:=(hl.2 3 b3 25 rfl rfl).listS (x:=tyD tab 25) (y:=tyD tab 27) (by kernel_rfl) rfl (by kernel_rfl)
 obtain rfl:b3= .list true 3 a3:=e3
 exact⟨_,_,_,_,rfl,w0,w1,w2,w3⟩
theorem rs152 {x:D}(h:RowS tab 152 x):∃a0 a1 a2 a3 a4 a5 a6 a7 a8 a9 a10 a11 a12 a13 a14,x= .agg [.int .u8 a0,.str a1,.str a2,.list false 1 a3,.int .u8 a4,.str a5,.list true 3 a6,.int .i64 a7,.str a8,.list false 1 a9,.list true 8 a10,.list true 15 a11,.list true 15 a12,.list true 3 a13,.int .i64 a14]∧(Lit.int .u8 a0).wf=true∧a1.size≤maxLen∧a2.size≤maxLen∧ListS tab 9 a3∧(Lit.int .u8 a4).wf=true∧a5.size≤maxLen∧ListS tab 27 a6∧(Lit.int .i64 a7).wf=true∧a8.size≤maxLen∧ListS tab 9 a9∧ListS tab 33 a10∧ListS tab 152 a11∧ListS tab 152 a12∧ListS tab 154 a13∧(Lit.int .i64 a14).wf=true:=by
 obtain⟨cs,rfl,hs⟩:=h.agg (y:=tyD tab 152) (by kernel_rfl) rfl
 have hl:=hs.flat 9 152 [5,9,9,28,5,9,25,2,9,28,31,124,124,150,3] cs (by kernel_rfl)
 obtain⟨b0,b1,b2,b3,b4,b5,b6,b7,b8,b9,b10,b11,b12,b13,b14,rfl⟩:=llen15 hl.1
 obtain⟨a0,rfl,w0⟩:=(hl.2 0 b0 5 rfl rfl).intS (x:=tyD tab 5) (by kernel_rfl) rfl
 obtain⟨a1,rfl,w1⟩:=(hl.2 1 b1 9 rfl rfl).strS (x:=tyD tab 9) (by kernel_rfl) rfl
 obtain⟨a2,rfl,w2⟩:=(hl.2 2 b2 9 rfl rfl).strS (x:=tyD tab 9) (by kernel_rfl) rfl
 obtain⟨a3,e3,w3⟩:=(hl.2 3 b3 28 rfl rfl).listS (x:=tyD tab 28) (y:=tyD tab 9) (by kernel_rfl) rfl (by kernel_rfl)
 obtain rfl:b3= .list false 1 a3:=e3
 obtain⟨a4,rfl,w4⟩:=(hl.2 4 b4 5 rfl rfl).intS (x:=tyD tab 5) (by kernel_rfl) rfl
 obtain⟨a5,rfl,w5⟩:=(hl.2 5 b5 9 rfl rfl).strS (x:=tyD tab 9) (by kernel_rfl) rfl
 obtain⟨a6,e6,w6⟩:=(hl.2 6 b6 25 rfl rfl).listS (x:=tyD tab 25) (y:=tyD tab 27) (by kernel_rfl) rfl (by kernel_rfl)
 obtain rfl:b6= .list true 3 a6:=e6
 obtain⟨a7,rfl,w7⟩:=(hl.2 7 b7 2 rfl rfl).intS (x:=tyD tab 2) (by kernel_rfl) rfl
 obtain⟨a8,rfl,w8⟩:=(hl.2 8 b8 9 rfl rfl).strS (x:=tyD tab 9) (by kernel_rfl) rfl
 obtain⟨a9,e9,w9⟩:=(hl.2 9 b9 28 rfl rfl).listS (x:=tyD tab 28) (y:=tyD tab 9) (by kernel_rfl) rfl (by kernel_rfl)
 obtain rfl:b9= .list false 1 a9:=e9
 obtain⟨a10,e10,w10⟩:=(hl.2 10 b10 31 rfl rfl).listS (x:=tyD tab 31) (y:=tyD tab 33) (by kernel_rfl) rfl (by kernel_rfl)
 obtain rfl:b10= .list true 8 a10:=e10
 obtain⟨a11,e11,w11⟩:=(hl.2 11 b11 124 rfl rfl).listS (x:=tyD tab 124) (y:=tyD tab 152) (by kernel_rfl) rfl (by kernel_rfl)
 obtain rfl:b11= .list true 15 a11:=e11
 obtain⟨a12,e12,w12⟩:=(hl.2 12 b12 124 rfl rfl).listS (x:=tyD tab 124) (y:=tyD tab 152) (by kernel_rfl) rfl (by kernel_rfl)
 obtain rfl:b12= .list true 15 a12:=e12
 obtain⟨a13,e13,w13⟩:=(hl.2 13 b13 150 rfl rfl).listS (x:=tyD tab 150) (y:=tyD tab 154) (by kernel_rfl) rfl (by kernel_rfl)
 obtain rfl:b13= .list true 3 a13:=e13
 obtain⟨a14,rfl,w14⟩:=(hl.2 14 b14 3 rfl rfl).intS (x:=tyD tab 3) (by kernel_rfl) rfl
 exact⟨_,_,_,_,_,_,_,_,_,_,_,_,_,_,_,rfl,w0,w1,w2,w3,w4,w5,w6,w7,w8,w9,w10,w11,w12,w13,w14⟩
theorem rs154 {x:D}(h:RowS tab 154 x):∃a0 a1 a2,x= .agg [.str a0,.str a1,.list true 15 a2]∧a0.size≤maxLen∧a1.size≤maxLen∧ListS tab 152 a2:=by
 obtain⟨cs,rfl,hs⟩:=h.agg (y:=tyD tab 154) (by kernel_rfl) rfl
 have hl:=hs.flat 9 154 [9,9,124] cs (by kernel_rfl)
 obtain⟨b0,b1,b2,rfl⟩:=llen3 hl.1
 obtain⟨a0,rfl,w0⟩:=(hl.2 0 b0 9 rfl rfl).strS (x:=tyD tab 9) (by kernel_rfl) rfl
 obtain⟨a1,rfl,w1⟩:=(hl.2 1 b1 9 rfl rfl).strS (x:=tyD tab 9) (by kernel_rfl) rfl
 obtain⟨a2,e2,w2⟩:=(hl.2 2 b2 124 rfl rfl).listS (x:=tyD tab 124) (y:=tyD tab 152) (by kernel_rfl) rfl (by kernel_rfl)
 obtain rfl:b2= .list true 15 a2:=e2
 exact⟨_,_,_,rfl,w0,w1,w2⟩
end Go.Proofs.Ytiiojajgajnhpaa
end
namespace Go.AM
open Go Go.RowKit
def cvP (p:Id→Bool):CV→Bool
 | .ptr i _=>p i
 | .fn _ cap=>allB p cap
 | .lst i _ _ _=>p i
 | .sl i _=>p i
 | .map i=>p i
 | .ap i _ _ _ _=>p i
 | .ow i=>p i
 | .op i _ _ _=>p i
 | .yl i=>p i
 | _=>true
def v1P (p:Id→Bool):V1→Bool
 | .d _=>true
 | .c x=>cvP p x
 | .agg cs=>allB (cvP p) cs
def avP (p:Id→Bool):AV→Bool
 | .u=>true
 | .v x=>v1P p x
 | .t xs=>allB (v1P p) xs
def objP (p:Id→Bool):AObj→Bool
 | .cells cs=>allB (cvP p) cs
 | .tok ..=>true
 | .map _ _ es=>allB (fun e=>v1P p e.2) es
 | .arr cs1 _ _ _ cs2=>match allB (cvP p) cs1 with
  | true=>allB (cvP p) cs2
  | false=>false
 | .tree _ _ _ _ foc=>match foc with
  | some x=>allB (cvP p) x.2
  | none=>true
 | .pmap _ _ _ _ foc=>match foc with
  | some x=>p x.2
  | none=>true
 | .gone=>true
 | .rnd _ sl=>allB (fun x=>avP p x.2) sl
 | .rndX _=>true
section
variable {p:Id→Bool}{f e:Id→Id}(hp:∀i,p i=true→f (e i)=i)
include hp
theorem ren_cv {c:CV}(h:cvP p c=true):(c.ren e).ren f=c:=by
 cases c<;>simp only[CV.ren,cvP]at h ⊢
 ·rw[hp _ h]
 ·rw[List.map_map]
  congr 1
  rw[allB_iff]at h
  exact map_same fun i hi=>hp _ (h i hi)
 ·rw[hp _ h]
 ·rw[hp _ h]
 ·rw[hp _ h]
 ·rw[hp _ h]
 ·rw[hp _ h]
 ·rw[hp _ h]
 ·rw[hp _ h]
theorem ren_cvs {cs:List CV}(h:allB (cvP p) cs=true):(cs.map (CV.ren e)).map (CV.ren f)=cs:=by
 rw[List.map_map]
 rw[allB_iff]at h
 exact map_same fun i hi=>ren_cv hp (h i hi)
theorem ren_v1 {c:V1}(h:v1P p c=true):(c.ren e).ren f=c:=by
 cases c<;>simp only[V1.ren,v1P]at h ⊢
 ·rw[ren_cv hp h]
 ·rw[ren_cvs hp h]
theorem ren_av {c:AV}(h:avP p c=true):(c.ren e).ren f=c:=by
 cases c<;>simp only[AV.ren,avP]at h ⊢
 ·rw[ren_v1 hp h]
 ·rw[List.map_map]
  congr 1
  rw[allB_iff]at h
  exact map_same fun i hi=>ren_v1 hp (h i hi)
theorem ren_obj {c:AObj}(h:objP p c=true):(c.ren e).ren f=c:=by
 cases c<;>simp only[AObj.ren,objP]at h ⊢
 ·rw[ren_cvs hp h]
 ·rw[List.map_map]
  congr 1
  rw[allB_iff]at h
  refine map_same fun i hi=>?_
  show (i.1,(i.2.ren e).ren f)=i
  rw[ren_v1 hp (h i hi)]
 ·split at h
  ·rename_i h1
   rw[ren_cvs hp h,ren_cvs hp h1]
  ·cases h
 ·congr 1
  split at h
  ·show some (_,List.map (CV.ren f) (List.map (CV.ren e) _))=_
   rw[ren_cvs hp h]
  ·rfl
 ·congr 1
  split at h
  ·show some (_,f (e _))=_
   rw[hp _ h]
  ·rfl
 ·rw[List.map_map]
  congr 1
  rw[allB_iff]at h
  refine map_same fun i hi=>?_
  show (i.1,(i.2.ren e).ren f)=i
  rw[ren_av hp (h i hi)]
end
theorem weak_ren {σ σ':St}(r:Id→Id) (hext:∀j,r (.ext j)= .ext j) (hbig:∀n,σ'.next≤n→∃N,σ.next≤N∧r (.loc n)= .loc N)
  (hs:∀t,getS σ'.slots t= .u∨getS σ.slots t=(getS σ'.slots t).ren r) (hh:∀i o,getH σ'.heap i=some o→getH σ.heap (r i)=some (o.ren r))
  (hinj:∀i j o o',getH σ'.heap i=some o→getH σ'.heap j=some o'→r i=r j→i=j) (hlow:∀n,σ'.next≤n→getH σ'.heap (.loc n)=none):Weak σ σ':=by
 rintro C a w ⟨g,R⟩
 let g':Ghost:=fun i=>g (r i)
 have hz:∀b o,zone g' (getH σ'.heap) b o→zone g (getH σ.heap) b o:=by
  rintro b o ⟨i,ob,hi,h1⟩
  exact⟨r i,_,hh i ob hi,zone1_ren.2 h1⟩
 have hzz:∀b o,zor (zone g' (getH σ'.heap)) C.X b o→zor (zone g (getH σ.heap)) C.X b o:=fun b o hx=>hx.imp (hz b o) id
 have ht:∀i n sz e,getH σ'.heap i=some (.tok n sz e)→getH σ.heap (r i)=some (.tok n sz e):=fun i n sz e hi=>hh i _ hi
 have hw:∀i,isLive (getH σ'.heap i)=true→isLive (getH σ.heap (r i))=true:=by
  intro i hi
  cases hc:getH σ'.heap i with
  | none=>rw[hc]at hi;cases hi
  | some o=>
   rw[hh i o hc]
   rw[hc]at hi
   exact isLive_ren.trans hi
 refine⟨g',R.size,R.defers,fun t=>?_,⟨fun i o hi=>RelObj.pull (r:=r) (g':=g') hzz (fun _=>rfl) ht hw (R.heap.objs _ _ (hh i o hi)),fun i j oi oj b hi hj bi bj=>?_,fun i oi b o hi bi=>R.heap.apart _ _ b o (hh i oi hi) (Obk_ren.2 bi)⟩,R.frame,fun j=>?_,
  fun j ob b o hj hz'=>R.within _ _ b o (hh j ob hj) (zone1_ren.2 hz'),R.xs,fun n hn=>⟨?_,hlow n hn⟩⟩
 ·rcases hs t with e | e
  ·rw[e];trivial
  ·have:=R.slots t
   rw[e]at this
   exact RelAV.pull (r:=r) hzz (fun _=>rfl) ht hw this
 ·exact hinj i j oi oj hi hj (R.heap.sep _ _ _ _ b (hh i oi hi) (hh j oj hj) (Obk_ren.2 bi) (Obk_ren.2 bj))
 ·show gsame (C.g0 (.ext j)) (g (r (.ext j)))
  rw[hext]
  exact R.ext j
 ·obtain⟨N,hN,e⟩:=hbig n hn
  show g (r (.loc n))=undef
  rw[e]
  exact (R.free N hN).1
def fstOf:List (Nat×Nat)→Nat→Option Nat
 | [],_=>none
 | (a,b)::l,k=>match Nat.beq a k with
  | true=>some b
  | false=>fstOf l k
def sndOf:List (Nat×Nat)→Nat→Option Nat
 | [],_=>none
 | (a,b)::l,k=>match Nat.beq b k with
  | true=>some a
  | false=>sndOf l k
def invF (l:List (Nat×Nat)):Id→Id
 | .ext j=>.ext j
 | .loc k=>match fstOf l k with
  | some m=>.loc m
  | none=>.loc k
def backF (l:List (Nat×Nat)):Id→Id
 | .ext j=>.ext j
 | .loc k=>match sndOf l k with
  | some m=>.loc m
  | none=>.loc k
def okId (l:List (Nat×Nat)) (n:Nat) (i:Id):Bool:=
 match Id.beq (backF l (invF l i)) i with
 | true=>idB n (invF l i)
 | false=>false
def renS (l:List (Nat×Nat)):List (Nat×AV)→List (Nat×AV)
 | []=>[]
 | (t,x)::r=>(t,x.ren (invF l))::renS l r
def renH (l:List (Nat×Nat)):List (Id×AObj)→List (Id×AObj)
 | []=>[]
 | (i,x)::r=>(invF l i,x.ren (invF l))::renH l r
def keepR (ks:List Nat) (is:List Id) (n:Nat) (l:List (Nat×Nat)) (σ:St) (K:St→Prop):Prop:=
 match keepH σ.heap is with
 | none=>False
 | some hp=>req (allB (fun x:Nat×AV=>avP (okId l n) x.2) (keepS σ.slots ks))<| req (allB (fun x:Id×AObj=>match okId l n x.1 with | true=>objP (okId l n) x.2 | false=>false) hp)<|
   K ⟨renS l (keepS σ.slots ks),renH l hp,n⟩
theorem renS_get {l:List (Nat×Nat)}{s:List (Nat×AV)}(t:Nat):getS (renS l s) t=(getS s t).ren (invF l):=by
 induction s with
 | nil=>rfl
 | cons x s ih=>
  obtain⟨k,v⟩:=x
  show getS ((k,v.ren (invF l))::renS l s) t=_
  rw[getS_cons,getS_cons]
  simp only[]
  split
  ·rfl
  ·exact ih
theorem renH_get {l:List (Nat×Nat)}{p:Id→Bool}{f:Id→Id}(hp:∀i,p i=true→f (invF l i)=i):∀{s:List (Id×AObj)},(∀x∈s,p x.1=true)→∀{i:Id}{o:AObj},getH (renH l s) i=some o→p (f i)=true∧invF l (f i)=i∧∃o',getH s (f i)=some o'∧o=o'.ren (invF l)
 | [],_,i,o,h=>by simp[renH,getH]at h
 | (k,v)::s,hs,i,o,h=>by
  have hk:=hs (k,v) (by simp)
  rw[show renH l ((k,v)::s)=(invF l k,v.ren (invF l))::renH l s from rfl,getH_cons]at h
  simp only[updO]at h
  by_cases e:i=invF l k
  ·rw[if_pos e]at h
   simp at h
   have hf:f i=k:=by rw[e];exact hp k hk
   rw[hf]
   exact⟨hk,e.symm,v,by rw[getH_cons];simp[updO],h.symm⟩
  ·rw[if_neg e]at h
   obtain⟨h1,h2,o',h3,h4⟩:=renH_get hp (fun x hx=>hs x (List.mem_cons_of_mem _ hx)) h
   refine⟨h1,h2,o',?_,h4⟩
   rw[getH_cons]
   simp only[updO]
   rw[if_neg]
   ·exact h3
   ·rintro rfl
    exact e h2.symm
theorem getH_all {q:Id×AObj→Bool}{l:List (Id×AObj)}(h:allB q l=true) {i:Id}{o:AObj}(hi:getH l i=some o):q (i,o)=true:=by
 induction l with
 | nil=>simp[getH]at hi
 | cons x l ih=>
  obtain⟨k,v⟩:=x
  rw[allB_iff]at h
  rw[getH_cons]at hi
  simp only[updO]at hi
  split at hi
  ·rename_i e
   cases hi
   rw[e]
   exact h _ (List.mem_cons_self ..)
  ·exact ih (allB_iff.2 fun x hx=>h x (by simp[hx])) hi
theorem keepR_weak {ks:List Nat}{is:List Id}{n:Nat}{l:List (Nat×Nat)}{σ:St}{K:St→Prop}(h:keepR ks is n l σ K):∃σ',Weak σ σ'∧K σ':=by
 unfold keepR at h
 split at h
 ·exact h.elim
 ·rename_i hp hhp
  obtain⟨h1,h⟩:=req_iff.1 h
  obtain⟨h2,h⟩:=req_iff.1 h
  let N:=max σ.next n
  let f:Id→Id:=fun i=>if idB n i=true then backF l i else .loc N
  have hpf:∀i,okId l n i=true→f (invF l i)=i:=by
   intro i hi
   unfold okId at hi
   split at hi
   ·rename_i hb
    show (if idB n (invF l i)=true then _ else _)=i
    rw[if_pos hi]
    exact Id.beq_iff.1 hb
   ·cases hi
  have hk2:∀x∈hp,okId l n x.1=true∧objP (okId l n) x.2=true:=by
   intro x hx
   have:=allB_iff.1 h2 x hx
   split at this
   ·rename_i hb;exact⟨hb,this⟩
   ·cases this
  have hnew:∀i o,getH (renH l hp) i=some o→okId l n (f i)=true∧invF l (f i)=i∧∃o',getH hp (f i)=some o'∧o=o'.ren (invF l):=fun i o hi=>renH_get hpf (fun x hx=>(hk2 x hx).1) hi
  refine⟨_,weak_ren f (fun j=>by show (if idB n (.ext j)=true then _ else _)=_;simp[idB,backF]) (fun m hm=>⟨N,Nat.le_max_left _ _,?_⟩) (fun t=>?_) (fun i o hi=>?_) (fun i j o o' hi hj e=>?_) (fun m hm=>?_),h⟩
  ·have hm:n≤m:=hm
   have:idB n (.loc m)=false:=by
    cases hb:idB n (.loc m)with
    | false=>rfl
    | true=>simp[idB]at hb;omega
   show (if idB n (.loc m)=true then _ else _)=_
   rw[this];rfl
  ·rw[renS_get]
   rcases keepS_get (l:=σ.slots) (ks:=ks) t with e | e
   ·rw[e];exact .inl rfl
   ·right
    rw[←e]
    exact (ren_av hpf (getS_all (p:=avP (okId l n)) rfl h1 t)).symm
  ·obtain⟨p1,p2,o',p3,rfl⟩:=hnew i o hi
   have hq:=getH_all (q:=fun x=>objP (okId l n) x.2) (allB_iff.2 fun x hx=>(hk2 x hx).2) p3
   rw[ren_obj hpf hq]
   exact (keepH_get hhp _ _ p3).1
  ·obtain⟨_,p2,_⟩:=hnew i o hi
   obtain⟨_,q2,_⟩:=hnew j o' hj
   rw[←p2,←q2,e]
  ·cases hc:getH (renH l hp) (.loc m)with
   | none=>rfl
   | some o=>
    obtain⟨p1,p2,_⟩:=hnew _ o hc
    have hm:n≤m:=hm
    unfold okId at p1
    split at p1
    ·rw[p2]at p1
     simp[idB]at p1
     omega
    ·cases p1
end Go.AM
namespace Go.AM
open Go Go.RowKit
theorem loop_invG {M:Mach}{ex:St→(AExit→St→Prop)→Prop}{σ:St}{K:AExit→St→Prop}(gs:List Gh) (l:List (Nat×Nat)) (ks:List Nat) (is:List Id) (nx:Nat) {T:Type}(S:T→St) (I:T→Prop) (m:T→Nat) (t0:T)
  (hI:I t0) (h0:gh gs σ fun σ=>keepR ks is nx l σ (·=S t0))
  (hr:∀t,I t→ex (S t) fun e σ2=>match e with
   | .normal=>∃n' σ3,n'<m t∧Weak σ2 σ3∧∃t',I t'∧n'=m t'∧σ3=S t'
   | .exit id=>K (.exit id) σ2
   | .ret=>K .ret σ2):M.lock fun _=>loopP ex σ K∨∃n,unrollP ex K n σ:=by
 refine (M.lock_iff _).2<| .inl ⟨fun n σ=>∃t,I t∧n=m t∧σ=S t,m t0,?_,?_⟩
 ·obtain⟨σ1,hw1,h1⟩:=gh_weak h0
  obtain⟨σ',hw,e⟩:=keepR_weak h1
  exact⟨σ',Weak.trans hw1 hw,t0,hI,rfl,e⟩
 ·rintro n σ1 ⟨t,h1,rfl,rfl⟩
  exact hr t h1
theorem loop_nextG {T:Type}{m:T→Nat}{I:T→Prop}{S:T→St}{σ2:St}{k:Nat}(t':T) (gs:List Gh) (l:List (Nat×Nat)) (ks:List Nat) (is:List Id) (nx:Nat) (hI:I t') (hm:m t'<k)
  (hk:gh gs σ2 fun σ=>keepR ks is nx l σ (·=S t')):∃n' σ3,n'<k∧Weak σ2 σ3∧∃t',I t'∧n'=m t'∧σ3=S t':=by
 obtain⟨σ1,hw1,h1⟩:=gh_weak hk
 obtain⟨σ',hw,e⟩:=keepR_weak h1
 exact⟨m t',σ',hm,Weak.trans hw1 hw,t',hI,rfl,e⟩
def lentD:AObj→Option D
 | .tree k ag sz rows foc=>match foc with
  | none=>conD k ag sz rows
  | some _=>none
 | _=>none
def lentB (o:AObj):Bool:=
 match lentD o with
 | some _=>true
 | none=>false
def lendC (n:Nat) (L:List AObj):CV→CV
 | .ow i=>match i with
  | .ext j=>match Nat.blt j n with
   | true=>.ow (.ext j)
   | false=>match L[j - n]? with
    | some o=>match lentD o with
     | some x=>.d x
     | none=>.un
    | none=>.un
  | .loc k=>.ow (.loc k)
 | c=>c
def lendV (n:Nat) (L:List AObj):V1→V1
 | .d x=>.d x
 | .c c=>V1.ofC (lendC n L c)
 | .agg cs=>V1.norm (.agg (cs.map (lendC n L)))
def plC:D→Bool
 | .list _ _ _=>false
 | _=>true
def plD:D→Bool
 | .agg cs=>allB plC cs
 | x=>plC x
def extB (n:Nat):Id→Bool
 | .ext j=>Nat.blt j n
 | .loc _=>true
def plCV (n:Nat):CV→Bool
 | .un=>true
 | .d x=>plD x
 | .ptr i _=>extB n i
 | .nilp=>true
 | .fn _ cap=>allB (extB n) cap
 | .nilf=>true
 | .nils _ _=>true
 | .sl i _=>extB n i
 | .map i=>extB n i
 | .nilm=>true
 | .ap i _ _ _ _=>extB n i
 | .ow i=>extB n i
 | .op i _ _ _=>extB n i
 | .yl i=>extB n i
 | _=>false
def plV (n:Nat):V1→Bool
 | .d x=>plD x
 | .c c=>plCV n c
 | .agg cs=>allB (plCV n) cs
def plA (n:Nat):AV→Bool
 | .u=>true
 | .v x=>plV n x
 | .t xs=>allB (plV n) xs
def plO (n:Nat):AObj→Bool
 | .cells cs=>allB (plCV n) cs
 | .tok ..=>true
 | .tree kd _ _ _ foc=>notFlat kd&&match foc with
  | some x=>allB (plCV n) x.2
  | none=>true
 | .gone=>true
 | .rnd _ sl=>allB (fun x=>plA n x.2) sl
 | .rndX _=>true
 | _=>false
theorem CV.ren_id (c:CV):c.ren (fun i=>i)=c:=by cases c<;>simp[CV.ren]
theorem V1.ren_id (c:V1):c.ren (fun i=>i)=c:=by
 cases c with
 | d x=>rfl
 | c x=>simp[V1.ren,CV.ren_id]
 | agg cs=>simp only[V1.ren];congr 1;exact map_same fun x _=>CV.ren_id x
theorem AObj.ren_id (c:AObj):c.ren (fun i=>i)=c:=by
 have hc:∀cs:List CV,cs.map (CV.ren fun i=>i)=cs:=fun cs=>map_same fun x _=>CV.ren_id x
 cases c with
 | cells cs=>simp only[AObj.ren,hc]
 | tok=>rfl
 | map kt et es=>simp only[AObj.ren];congr 1;exact map_same fun x _=>by simp[V1.ren_id]
 | arr=>simp only[AObj.ren,hc]
 | tree kd ag sz rows foc=>cases foc<;>simp[AObj.ren,hc]
 | pmap n1 sz n rows foc=>cases foc<;>simp[AObj.ren]
 | gone=>rfl
 | rnd r sl=>
  simp only[AObj.ren];congr 1
  refine map_same fun x _=>?_
  show (x.1,x.2.ren fun i=>i)=x
  have:x.2.ren (fun i=>i)=x.2:=by
   cases hx:x.2 with
   | u=>rfl
   | v y=>simp[AV.ren,V1.ren_id]
   | t ys=>simp only[AV.ren];congr 1;exact map_same fun y _=>V1.ren_id y
  rw[this]
 | rndX j=>rfl
section
variable {w:World}{Z Z' X:Zone}{g g':Ghost}{h h':Heap}
theorem plC_any {x:D}{v:Value}(r:RelD w Z x v) (hx:plC x=true) (ha:x.isAgg=false):RelD w Z' x v:=by
 cases r with
 | int k n=>exact .int k n
 | bool b=>exact .bool b
 | str s=>exact .str s
 | nil=>exact .nil
 | box cs v hv=>exact .box cs v hv
 | map sz rows v hv=>exact .map sz rows v hv
 | agg=>cases ha
 | list=>cases hx
theorem plD_any {x:D}{v:Value}(r:RelD w Z x v) (hx:plD x=true):RelD w Z' x v:=by
 cases ha:x.isAgg with
 | true=>
  cases r with
  | agg cs vs hs h1 hr=>exact .agg cs vs hs h1 fun j c u hc hu=>plC_any (hr j c u hc hu) (allB_iff.1 hx c (List.mem_of_getElem? hc)) (h1 c (List.mem_of_getElem? hc))
  | _=>cases ha
 | false=>
  refine plC_any r ?_ ha
  cases x<;>first | exact hx | cases ha
theorem plCV_any {n:Nat}(hg:∀i,extB n i=true→g' i=g i) (hh:∀i,extB n i=true→h' i=h i) {c:CV}{v:Value}(r:RelC w Z g h c v) (hc:plCV n c=true):RelC w Z' g' h' c v:=by
 cases c with
 | un=>exact r
 | d x=>exact⟨plD_any r.1 hc,r.2⟩
 | ptr i o=>simp only[RelC,hg i hc]at r ⊢;exact r
 | nilp=>exact r
 | fn f cap=>
  have hc:allB (extB n) cap=true:=hc
  rw[allB_iff]at hc
  obtain⟨r1,r2⟩:=r
  refine⟨?_,fun i hi=>by rw[hg i (hc i hi)];exact r2 i hi⟩
  rw[r1]
  congr 2
  exact List.map_congr_left fun i hi=>by rw[hg i (hc i hi)]
 | nilf=>exact r
 | nils=>exact r
 | sl i k=>simp only[RelC,hg i hc]at r ⊢;exact r
 | map i=>simp only[RelC,hg i hc]at r ⊢;exact r
 | nilm=>exact r
 | ap i b sz k o=>simp only[RelC,hg i hc]at r ⊢;exact r
 | ow i=>simp only[RelC,hg i hc,hh i hc]at r ⊢;exact r
 | op i sz k o=>simp only[RelC,hg i hc,hh i hc]at r ⊢;exact r
 | yl i=>simp only[RelC,hg i hc]at r ⊢;exact r
 | _=>cases hc
theorem plV_any {n:Nat}(hg:∀i,extB n i=true→g' i=g i) (hh:∀i,extB n i=true→h' i=h i) {c:V1}{v:Value}(r:RelV1 w Z g h c v) (hc:plV n c=true):RelV1 w Z' g' h' c v:=by
 cases c with
 | d x=>exact plD_any r hc
 | c x=>exact plCV_any hg hh r hc
 | agg cs=>
  obtain⟨vs,hv,hs,hr⟩:=r
  exact⟨vs,hv,hs,fun j c u h1 h2=>plCV_any hg hh (hr j c u h1 h2) (allB_iff.1 hc c (List.mem_of_getElem? h1))⟩
theorem plA_any {n:Nat}(hg:∀i,extB n i=true→g' i=g i) (hh:∀i,extB n i=true→h' i=h i) {c:AV}{v:Value}(r:RelAV w Z g h c v) (hc:plA n c=true):RelAV w Z' g' h' c v:=by
 cases c with
 | u=>trivial
 | v x=>exact plV_any hg hh r hc
 | t xs=>
  obtain⟨vs,hv,hs,hr⟩:=r
  exact⟨vs,hv,hs,fun j c u h1 h2=>plV_any hg hh (hr j c u h1 h2) (allB_iff.1 hc c (List.mem_of_getElem? h1))⟩
theorem plO_any {n:Nat}(hg:∀i,extB n i=true→g' i=g i) (hh:∀i,extB n i=true→h' i=h i) {o:AObj}{v:Value}(r:RelObj w Z g h o v) (hc:plO n o=true):RelObj w Z' g' h' o v:=by
 cases o with
 | cells cs=>
  obtain⟨b,c,e,hv,hb,hs,hr⟩:=r
  exact⟨b,c,e,hv,hb,hs,fun j x u h1 h2=>plCV_any hg hh (hr j x u h1 h2) (allB_iff.1 hc x (List.mem_of_getElem? h1))⟩
 | tok=>exact r
 | tree kd ag sz rows foc=>
  obtain⟨ht,h0,hf,xs,hx,hcc,U,T,q⟩:=r
  unfold plO at hc
  rw[Bool.and_eq_true]at hc
  obtain⟨hnf,hc⟩:=hc
  have hkf:=notFlat_iff.1 hnf
  refine⟨ht,h0,hf,xs,hx,fun k cs hk=>?_,U,T,fun i r j c h1 h2 h3=>⟨(q.1 i r j c h1 h2 h3).1,(RelK.own hkf).2 ((RelK.own hkf).1 (q.1 i r j c h1 h2 h3).2)⟩,q.2⟩
  subst hk
  obtain⟨p1,p2,p3⟩:=hcc k cs rfl
  exact⟨p1,p2,fun j c u h1 h2=>plCV_any hg hh (p3 j c u h1 h2) (allB_iff.1 hc c (List.mem_of_getElem? h1))⟩
 | gone=>trivial
 | rnd rf sl=>
  obtain⟨l,L,hv,hh',h1,h2,h3,h4,h5,h6,h7⟩:=r
  refine⟨l,L,hv,hh',h1,h2,h3,h4,h5,h6,fun t=>plA_any hg hh (h7 t) ?_⟩
  have hc:allB (fun x=>plA n x.2) sl=true:=hc
  rw[allB_iff]at hc
  exact getS_ind (p:=fun x=>plA n x=true) rfl hc t
 | rndX j=>exact r
 | _=>cases hc
end
theorem Trip.lend {P:Program}{I:Inv}{f:FuncId}{targs targs':List V1}{pre post new:List AObj}{res:AV}(ht:Trip P I f targs pre res post new) (L:List AObj) (hL:allB lentB L=true)
  (he:targs'.map (lendV pre.length L)=targs) (hlen:post.length=pre.length) (hres:plA pre.length res=true) (hpost:allB (plO pre.length) post=true) (hnew:allB (plO pre.length) new=true):
  Trip P I f targs' (pre++L) res (post++L) new:=by
 refine Trip.mk' ht.1 fun w X g vals hX hI RH hgl hsz hargs=>?_
 let n:=pre.length
 let hs:Heap:=heapOf pre
 let hb:Heap:=heapOf (pre++L)
 have sub:∀i o,hs i=some o→hb i=some o∧extB n i=true:=by
  intro i o hi
  cases i with
  | loc k=>simp[hs,heapOf]at hi
  | ext j=>
   have hi:pre[j]?=some o:=hi
   have hlt:=(List.getElem?_eq_some_iff.1 hi).1
   refine⟨?_,by simp[extB,n,hlt]⟩
   show (pre++L)[j]?=some o
   rw[List.getElem?_append_left hlt];exact hi
 have lent:∀i o,hb i=some o→hs i=some o∨∃j,i= .ext j∧n≤j∧L[j - n]?=some o:=by
  intro i o hi
  cases i with
  | loc k=>simp[hb,heapOf]at hi
  | ext j=>
   have hi:(pre++L)[j]?=some o:=hi
   by_cases hj:j<n
   ·rw[List.getElem?_append_left hj]at hi;exact .inl hi
   ·rw[List.getElem?_append_right (by omega)]at hi
    exact .inr ⟨j,rfl,by omega,hi⟩
 have lentO:∀(k:Nat) o,L[k]?=some o→∃kd ag sz rows x,o= .tree kd ag sz rows none∧conD kd ag sz rows=some x:=by
  intro k o hk
  have:=allB_iff.1 hL o (List.mem_of_getElem? hk)
  unfold lentB at this
  cases o with
  | tree kd ag sz rows foc=>
   cases foc with
   | none=>
    simp only[lentD]at this
    split at this
    ·rename_i x hx;exact⟨kd,ag,sz,rows,x,rfl,hx⟩
    ·cases this
   | some _=>simp[lentD]at this
  | _=>simp[lentD]at this
 have zsub:∀b o,zone g hs b o→zone g hb b o:=fun b o ⟨i,ob,hi,h1⟩=>⟨i,ob,(sub i ob hi).1,h1⟩
 have zz:∀b o,zor (zone g hs) X b o→zor (zone g hb) X b o:=fun b o hz=>hz.imp (zsub b o) id
 -- the lent blocks are nobody else's
 have apart:∀j o,n≤j→L[j - n]?=some o→∀b,Blk (g (.ext j)) b→∀q,¬zor (zone g hs) X b q:=by
  intro j o hj ho b hbb q hz
  obtain⟨kd,ag,sz,rows,x,rfl,hx⟩:=lentO _ _ ho
  have hbj:hb (.ext j)=some (.tree kd ag sz rows none):=by
   show (pre++L)[j]?=_
   rw[List.getElem?_append_right (by omega)];exact ho
  rcases hz with⟨i,ob,hi,h1⟩ | hx'
  ·have:=RH.sep i (.ext j) ob _ b (sub i ob hi).1 hbj h1.obk hbb
   subst this
   have:=(sub _ ob hi).2
   simp[extB]at this
   omega
  ·exact RH.apart (.ext j) _ b q hbj hbb hx'
 have RS:RelH w X g hs:=by
  refine⟨fun i o hi=>?_,fun i j oi oj b hi hj bi bj=>RH.sep i j oi oj b (sub i oi hi).1 (sub j oj hj).1 bi bj,fun i oi b o hi bi=>RH.apart i oi b o (sub i oi hi).1 bi⟩
  refine RelObj.pull (r:=fun i=>i) (g:=g) (h:=hb) zz (fun _=>rfl) (fun i n sz e hi=>(sub i _ hi).1) (fun i hi=>?_) (by rw[AObj.ren_id];exact RH.objs i o (sub i o hi).1)
  cases hc:hs i with
  | none=>rw[hc]at hi;cases hi
  | some o=>rw[(sub i o hc).1];rw[hc]at hi;exact hi
 have live:∀i,isLive (hs i)=true→isLive (hb i)=true:=fun i hi=>by
  cases hc:hs i with
  | none=>rw[hc]at hi;cases hi
  | some o=>rw[(sub i o hc).1];rw[hc]at hi;exact hi
 have cv:∀{c:CV} {v:Value},RelC w (zor (zone g hb) X) g hb c v→RelC w (zor (zone g hs) X) g hs (lendC n L c) v:=by
  intro c v hr
  have triv:RelC w (zor (zone g hs) X) g hs c v:=RelC.pull (r:=fun i=>i) (g:=g) (h:=hb) zz (fun _=>rfl) (fun i n sz e hi=>(sub i _ hi).1) live (by rw[CV.ren_id];exact hr)
  cases c with
  | ow i=>
   cases i with
   | loc k=>exact triv
   | ext j=>
    show RelC w _ g hs (match Nat.blt j n with
     | true=>.ow (.ext j)
     | false=>match L[j - n]? with
      | some o=>match lentD o with
       | some x=>.d x
       | none=>.un
      | none=>.un) v
    cases hj:Nat.blt j n with
    | true=>exact triv
    | false=>
     have hj:n≤j:=by
      have:¬j<n:=by
       intro hlt
       have:Nat.blt j n=true:=by simpa using hlt
       rw[this]at hj;cases hj
      omega
     simp only[]
     cases ho:L[j - n]? with
     | none=>exact hr.1
     | some o=>
      obtain⟨kd,ag,sz,rows,x,rfl,hx⟩:=lentO _ _ ho
      have hbj:hb (.ext j)=some (.tree kd ag sz rows none):=by
       show (pre++L)[j]?=_
       rw[List.getElem?_append_right (by omega)];exact ho
      simp only[lentD,hx]
      have hv:=hr.2.2 (by rw[hbj];rfl)
      have ho':=((tree_iff hx).1 (RH.objs _ _ hbj)).2
      rw[hv]
      exact⟨ho'.toD fun b q hb=>apart j _ hj ho b hb q,ho'.isAgg⟩
  | _=>exact triv
 have hargs':∀(j:Nat) x v,targs[j]?=some x→vals[j]?=some v→RelV1 w (zor (zone g hs) X) g hs x v:=by
  intro j x v hx hv
  rw[←he,List.getElem?_map,Option.map_eq_some_iff]at hx
  obtain⟨x',hx',rfl⟩:=hx
  have hr:=hargs j x' v hx' hv
  cases x' with
  | d x=>exact RelD.mono (fun b o u hu hn=>⟨hu,fun hz=>hn (zz b o hz)⟩) hr
  | c c=>exact RelV1.ofC (cv hr)
  | agg cs=>
   obtain⟨vs,hv',hs',hr⟩:=hr
   refine RelV1.norm (show RelV1 w (zor (zone g hs) X) g hs (.agg (cs.map (lendC n L))) v from⟨vs,hv',by simpa using hs',fun q c u hc hu=>?_⟩)
   rw[List.getElem?_map,Option.map_eq_some_iff]at hc
   obtain⟨c',hc',rfl⟩:=hc
   exact cv (hr q c' u hc' hu)
 refine (ht.calls (X:=X) (g:=g) (vals:=vals) hX (hI.mono zz) RS hgl (by rw[hsz,←he];simp) hargs').mono ?_
 rintro e w' ⟨v,g',rfl,CP⟩
 let g2:Ghost:=fun i=>match i with
  | .ext j=>if j<n then g' (.ext j)else g (.ext j)
  | .loc k=>g' (.loc k)
 let hs2:Heap:=heapOf2 post new
 let hb2:Heap:=heapOf2 (post++L) new
 have hg2:∀i,extB n i=true→g2 i=g' i:=by
  intro i hi
  cases i with
  | loc k=>rfl
  | ext j=>
   have:j<n:=by simpa [extB] using hi
   show (if j<n then _ else _)=_
   rw[if_pos this]
 have hh2:∀i,extB n i=true→hb2 i=hs2 i:=by
  intro i hi
  cases i with
  | loc k=>rfl
  | ext j=>
   have:j<n:=by simpa [extB] using hi
   show (post++L)[j]?=post[j]?
   rw[List.getElem?_append_left (by omega)]
 have case2:∀i o,hb2 i=some o→(extB n i=true∧hs2 i=some o)∨∃j,i= .ext j∧n≤j∧L[j - n]?=some o∧g2 i=g i∧hb i=some o:=by
  intro i o hi
  cases i with
  | loc k=>exact .inl ⟨rfl,hi⟩
  | ext j=>
   have hi':(post++L)[j]?=some o:=hi
   by_cases hj:j<n
   ·exact .inl ⟨by simp[extB,hj],by rw[←hh2 _ (by simp[extB,hj])];exact hi⟩
   ·rw[List.getElem?_append_right (by omega),hlen]at hi'
    refine .inr ⟨j,rfl,by omega,hi',?_,?_⟩
    ·show (if j<n then _ else _)=_
     rw[if_neg hj]
    ·show (pre++L)[j]?=_
     rw[List.getElem?_append_right (by omega)];exact hi'
 have small:∀i o,hs2 i=some o→plO n o=true∧extB n i=true:=by
  intro i o hi
  cases i with
  | loc k=>exact⟨allB_iff.1 hnew o (List.mem_of_getElem? (show new[k]?=some o from hi)),rfl⟩
  | ext j=>
   have hi:post[j]?=some o:=hi
   exact⟨allB_iff.1 hpost o (List.mem_of_getElem? hi),by simp[extB,n,←hlen,(List.getElem?_eq_some_iff.1 hi).1]⟩
 have old:∀j o,n≤j→L[j - n]?=some o→hb (.ext j)=some o→∀b,Obk (g (.ext j)) o b→b<w.heap.size∧Blk (g (.ext j)) b:=fun j o hj ho hbj b hb=>⟨(RH.objs _ _ hbj).lt hb,hb.blk⟩
 refine⟨v,g2,rfl,⟨⟨fun i o hi=>?_,fun i j oi oj b hi hj bi bj=>?_,fun i oi b o hi bi=>?_⟩,plA_any hg2 hh2 CP.res hres,CP.frame.weaken zsub,fun j=>?_,fun i ob b o hi hz=>?_,fun k hk=>CP.none k hk⟩⟩
 ·rcases case2 i o hi with⟨h1,h2⟩ | ⟨j,rfl,hj,ho,hg,hbj⟩
  ·rw[hg2 i h1]
   exact plO_any hg2 hh2 (CP.heap.objs i o h2) (small i o h2).1
  ·rw[hg]
   obtain⟨kd,ag,sz,rows,x,rfl,hx⟩:=lentO _ _ ho
   obtain⟨h1,h2⟩:=(tree_iff hx).1 (RH.objs _ _ hbj)
   exact (tree_iff hx).2 ⟨h1,h2.same fun b hb=>CP.frame.block b (h2.lt b hb) (fun q hz=>apart j _ hj ho b hb q (.inl hz))⟩
 ·have mixed:∀i j oi oj,extB n i=true→hs2 i=some oi→∀k,j= .ext k→n≤k→L[k - n]?=some oj→hb j=some oj→Obk (g' i) oi b→Obk (g j) oj b→False:=by
   rintro i j oi oj h1 h2 k rfl hk ho hbj bi bj
   obtain⟨q,hq⟩:=bi.zone
   obtain⟨p1,p2⟩:=old k oj hk ho hbj b bj
   rcases CP.within i oi b q h2 hq with hz | hz
   ·exact apart k oj hk ho b p2 q (.inl hz)
   ·omega
  rcases case2 i oi hi with⟨h1,h2⟩ | ⟨k,hk1,hk,ho,hg,hbj⟩
  ·rw[hg2 i h1]at bi
   rcases case2 j oj hj with⟨h3,h4⟩ | ⟨k',hk1',hk',ho',hg',hbj'⟩
   ·rw[hg2 j h3]at bj
    exact CP.heap.sep i j oi oj b h2 h4 bi bj
   ·rw[hg']at bj
    exact (mixed i j oi oj h1 h2 k' hk1' hk' ho' hbj' bi bj).elim
  ·rw[hg]at bi
   rcases case2 j oj hj with⟨h3,h4⟩ | ⟨k',hk1',hk',ho',hg',hbj'⟩
   ·rw[hg2 j h3]at bj
    exact (mixed j i oj oi h3 h4 k hk1 hk ho hbj bj bi).elim
   ·rw[hg']at bj
    exact RH.sep i j oi oj b hbj hbj' bi bj
 ·rcases case2 i oi hi with⟨h1,h2⟩ | ⟨k,hk1,hk,ho,hg,hbj⟩
  ·rw[hg2 i h1]at bi
   exact CP.heap.apart i oi b o h2 bi
  ·rw[hg]at bi
   exact RH.apart i oi b o hbj bi
 ·show gsame (g (.ext j)) (if j<n then g' (.ext j)else g (.ext j))
  split
  ·exact CP.ext j
  ·exact .refl _
 ·rcases case2 i ob hi with⟨h1,h2⟩ | ⟨k,hk1,hk,ho,hg,hbj⟩
  ·rw[hg2 i h1]at hz
   rcases CP.within i ob b o h2 hz with h3 | h3
   ·exact .inl (zsub b o h3)
   ·exact .inr h3
  ·rw[hg]at hz
   exact .inl ⟨i,ob,hbj,hz⟩
end Go.AM
namespace Go.AM
open Go Go.RowKit
section
variable {α β γ:Type}
end
section
variable {γ:Type}
def letB (b:Bool) (k:Bool→Option γ):Option γ:=k b
theorem letB_inv {b:Bool}{k:Bool→Option γ}{r:γ}(h:letB b k=some r):∃y,b=y∧k y=some r:=⟨b,rfl,h⟩
end
theorem not_eq' {a q:Bool}(h:(!a)=q):notB a=q:=by rw[notB_eq];exact h
theorem seq_go {M:Mach}{ea eb:St→(AExit→St→Prop)→Prop}{σ:St}{K:AExit→St→Prop}(h:ea σ fun e σ'=>match e with
  | .normal=>eb σ' K
  | .exit id=>K (.exit id) σ'
  | .ret=>K .ret σ'):M.lock fun _=>seqP ea eb σ K:=(M.lock_iff _).2 (.inl h)
theorem seq_join {M:Mach}{ea eb:St→(AExit→St→Prop)→Prop}{σ:St}{K:AExit→St→Prop}{T:Type}(S:T→St) (I:T→Prop)
  (ha:ea σ fun e σ'=>match e with
   | .normal=>∃σ'',Weak σ' σ''∧∃t,I t∧σ''=S t
   | .exit id=>K (.exit id) σ'
   | .ret=>K .ret σ') (hb:∀t,I t→eb (S t) K):M.lock fun _=>seqP ea eb σ K:=by
 refine (M.lock_iff _).2 (.inr ⟨fun σ=>∃t,I t∧σ=S t,ha,?_⟩)
 rintro σ2 ⟨t,hi,rfl⟩
 exact hb t hi
theorem join_next {T:Type}{I:T→Prop}{S:T→St}{σ2:St}(t':T) (ks:List Nat) (is:List Id) (nx:Nat) (hI:I t') (hk:keep ks is nx σ2 (·=S t')):
  ∃σ'',Weak σ2 σ''∧∃t,I t∧σ''=S t:=by
 obtain⟨σ',hw,e⟩:=keep_weak hk
 exact⟨σ',hw,t',hI,e⟩
section
variable {M:Mach}{P:Program}{I:Inv}
theorem op_pl {ti:Types}{o:Oper}{fresh:Nat}{σ:St}{K:St→Prop}(hk:plOp M ti o fresh σ K):M.lock fun _=>plOp M ti o fresh σ K∨ghOp M ti o fresh σ K:=(M.lock_iff _).2 (.inl hk)
end
end Go.AM
namespace Go.AM
open Go
def slB (d:Nat) (b:Bool) (l:List (Nat×AV)):List Nat→List (Nat×AV)
 | []=>[]
 | k::r=>(match Nat.beq k d with
  | true=>(k,.v (.d (.bool b)))
  | false=>(k,getS l k))::slB d b l r
def hpB (h:List (Id×AObj)):List Id→List (Id×AObj)
 | []=>[]
 | i::r=>(match getH h i with
  | some o=>(i,o)::hpB h r
  | none=>hpB h r)
def stB (d:Nat) (ks:List Nat) (is:List Id) (nx:Nat) (σ:St) (b:Bool):St:=⟨slB d b σ.slots ks,hpB σ.heap is,nx⟩
theorem seq_joinB {M:Mach}{ea eb:St→(AExit→St→Prop)→Prop}{σ:St}{K:AExit→St→Prop}(d:Nat) (ks:List Nat) (is:List Id) (nx:Nat) (I:Nat→Bool→Prop)
  (ha:ea σ fun e σ'=>match e with
   | .normal=>∃σ'',Weak σ' σ''∧∃t:Nat×Bool,I t.1 t.2∧σ''=stB d ks is nx σ t.2
   | .exit id=>K (.exit id) σ'
   | .ret=>K .ret σ') (hb:∀t:Nat×Bool,I t.1 t.2→eb (stB d ks is nx σ t.2) K):M.lock fun _=>seqP ea eb σ K:=
 seq_join (fun t:Nat×Bool=>stB d ks is nx σ t.2) (fun t=>I t.1 t.2) ha hb
end Go.AM
namespace Go.Proofs.Ytiiojajgajnhpaa
open Go Go.AM
theorem fol:Try.prog.follows .mixedOrders=true:=by kernel_rfl
def inv:Inv:=Inv.none
end Go.Proofs.Ytiiojajgajnhpaa
set_option maxRecDepth 100000
set_option maxHeartbeats 40000000
set_option linter.unusedVariables false
noncomputable section
namespace Go.Proofs.Ytiiojajgajnhpaa
open Go Go.AM
def ds_t126 {γ:Type}(x:D) (k:Int→ByteArray→List D→Int→ByteArray→List D→List D→Int→Int→ByteArray→ByteArray→ByteArray→List D→List D→Int→Int→Option γ):Option γ:=match x with | .agg [.int .u8 a0,.str a1,.list true 4 a2,.int .u8 a3,.str a4,.list true 3 a5,.list true 15 a6,.int .u8 a7,.int .i64 a8,.str a9,.str a10,.str a11,.list false 1 a12,.list true 8 a13,.int .i64 a14,.int .i64 a15]=>k a0 a1 a2 a3 a4 a5 a6 a7 a8 a9 a10 a11 a12 a13 a14 a15 | _=>none
theorem ds_t126_inv {γ:Type}{x:D}{k:Int→ByteArray→List D→Int→ByteArray→List D→List D→Int→Int→ByteArray→ByteArray→ByteArray→List D→List D→Int→Int→Option γ}{r:γ}(h:ds_t126 x k=some r):∃a0 a1 a2 a3 a4 a5 a6 a7 a8 a9 a10 a11 a12 a13 a14 a15,x= .agg [.int .u8 a0,.str a1,.list true 4 a2,.int .u8 a3,.str a4,.list true 3 a5,.list true 15 a6,.int .u8 a7,.int .i64 a8,.str a9,.str a10,.str a11,.list false 1 a12,.list true 8 a13,.int .i64 a14,.int .i64 a15]∧k a0 a1 a2 a3 a4 a5 a6 a7 a8 a9 a10 a11 a12 a13 a14 a15=some r:=by
 unfold ds_t126 at h
 split at h
 ·exact⟨_,_,_,_,_,_,_,_,_,_,_,_,_,_,_,_,rfl,h⟩
 ·cases h
def ds_t136 {γ:Type}(x:D) (k:ByteArray→Int→ByteArray→List D→Option γ):Option γ:=match x with | .agg [.str a0,.int .u8 a1,.str a2,.list true 3 a3]=>k a0 a1 a2 a3 | _=>none
theorem ds_t136_inv {γ:Type}{x:D}{k:ByteArray→Int→ByteArray→List D→Option γ}{r:γ}(h:ds_t136 x k=some r):∃a0 a1 a2 a3,x= .agg [.str a0,.int .u8 a1,.str a2,.list true 3 a3]∧k a0 a1 a2 a3=some r:=by
 unfold ds_t136 at h
 split at h
 ·exact⟨_,_,_,_,rfl,h⟩
 ·cases h
def ds_t27 {γ:Type}(x:D) (k:Int→ByteArray→List D→Option γ):Option γ:=match x with | .agg [.int .u8 a0,.str a1,.list true 3 a2]=>k a0 a1 a2 | _=>none
theorem ds_t27_inv {γ:Type}{x:D}{k:Int→ByteArray→List D→Option γ}{r:γ}(h:ds_t27 x k=some r):∃a0 a1 a2,x= .agg [.int .u8 a0,.str a1,.list true 3 a2]∧k a0 a1 a2=some r:=by
 unfold ds_t27 at h
 split at h
 ·exact⟨_,_,_,rfl,h⟩
 ·cases h
def ds_t152 {γ:Type}(x:D) (k:Int→ByteArray→ByteArray→List D→Int→ByteArray→List D→Int→ByteArray→List D→List D→List D→List D→List D→Int→Option γ):Option γ:=match x with | .agg [.int .u8 a0,.str a1,.str a2,.list false 1 a3,.int .u8 a4,.str a5,.list true 3 a6,.int .i64 a7,.str a8,.list false 1 a9,.list true 8 a10,.list true 15 a11,.list true 15 a12,.list true 3 a13,.int .i64 a14]=>k a0 a1 a2 a3 a4 a5 a6 a7 a8 a9 a10 a11 a12 a13 a14 | _=>none
theorem ds_t152_inv {γ:Type}{x:D}{k:Int→ByteArray→ByteArray→List D→Int→ByteArray→List D→Int→ByteArray→List D→List D→List D→List D→List D→Int→Option γ}{r:γ}(h:ds_t152 x k=some r):∃a0 a1 a2 a3 a4 a5 a6 a7 a8 a9 a10 a11 a12 a13 a14,x= .agg [.int .u8 a0,.str a1,.str a2,.list false 1 a3,.int .u8 a4,.str a5,.list true 3 a6,.int .i64 a7,.str a8,.list false 1 a9,.list true 8 a10,.list true 15 a11,.list true 15 a12,.list true 3 a13,.int .i64 a14]∧k a0 a1 a2 a3 a4 a5 a6 a7 a8 a9 a10 a11 a12 a13 a14=some r:=by
 unfold ds_t152 at h
 split at h
 ·exact⟨_,_,_,_,_,_,_,_,_,_,_,_,_,_,_,rfl,h⟩
 ·cases h
def ds_str {γ:Type}(x:D) (k:ByteArray→Option γ):Option γ:=match x with | .str a0=>k a0 | _=>none
theorem ds_str_inv {γ:Type}{x:D}{k:ByteArray→Option γ}{r:γ}(h:ds_str x k=some r):∃a0,x= .str a0∧k a0=some r:=by
 unfold ds_str at h
 split at h
 ·exact⟨_,rfl,h⟩
 ·cases h
def ds_t33 {γ:Type}(x:D) (k:Int→Int→ByteArray→ByteArray→ByteArray→List D→List D→Int→Option γ):Option γ:=match x with | .agg [.int .u8 a0,.int .i64 a1,.str a2,.str a3,.str a4,.list false 1 a5,.list true 8 a6,.int .i64 a7]=>k a0 a1 a2 a3 a4 a5 a6 a7 | _=>none
theorem ds_t33_inv {γ:Type}{x:D}{k:Int→Int→ByteArray→ByteArray→ByteArray→List D→List D→Int→Option γ}{r:γ}(h:ds_t33 x k=some r):∃a0 a1 a2 a3 a4 a5 a6 a7,x= .agg [.int .u8 a0,.int .i64 a1,.str a2,.str a3,.str a4,.list false 1 a5,.list true 8 a6,.int .i64 a7]∧k a0 a1 a2 a3 a4 a5 a6 a7=some r:=by
 unfold ds_t33 at h
 split at h
 ·exact⟨_,_,_,_,_,_,_,_,rfl,h⟩
 ·cases h
def ds_t154 {γ:Type}(x:D) (k:ByteArray→ByteArray→List D→Option γ):Option γ:=match x with | .agg [.str a0,.str a1,.list true 15 a2]=>k a0 a1 a2 | _=>none
theorem ds_t154_inv {γ:Type}{x:D}{k:ByteArray→ByteArray→List D→Option γ}{r:γ}(h:ds_t154 x k=some r):∃a0 a1 a2,x= .agg [.str a0,.str a1,.list true 15 a2]∧k a0 a1 a2=some r:=by
 unfold ds_t154 at h
 split at h
 ·exact⟨_,_,_,rfl,h⟩
 ·cases h
def k_spoilt:ByteArray:=⟨#[115,112,111,105,108,116]⟩
mutual
def L21_1:Nat→(List D)→(List D)→Bool→Option (Bool)
 | 0,_,_,_=>none
 | n+1,l3,l6,b9=>
  (if b9=true then some false else L21_2 n l3 l6 (0:Int))
def L21_2:Nat→(List D)→(List D)→Int→Option (Bool)
 | 0,_,_,_=>none
 | n+1,l3,l6,z10=>
  lenF l3 fun z11=>(if z10<z11 then L21_3 n l3 l6 z10 true else L21_3 n l3 l6 z10 false)
def L21_3:Nat→(List D)→(List D)→Int→Bool→Option (Bool)
 | 0,_,_,_,_=>none
 | n+1,l3,l6,z10,b12=>
  (if b12=true then getF l3 z10 fun x13=>ds_t27 x13 fun z14 s15 l16=>getF l6 z10 fun x17=>ds_t27 x17 fun z18 s19 l20=>bO1 (F21 n z14 s15 l16 z18 s19 l20) fun b21=>letB (!b21) fun b22=>(if b22=true then some false else letF (IntKind.wrap .i64 (z10+1)) fun z23=>L21_2 n l3 l6 z23)else some true)
def F21:Nat→Int→ByteArray→(List D)→Int→ByteArray→(List D)→Option (Bool)
 | 0,_,_,_,_,_,_=>none
 | n+1,z1,s2,l3,z4,s5,l6=>
  (if z1=z4 then (if s2=s5 then lenF l3 fun z7=>lenF l6 fun z8=>(if z7=z8 then L21_1 n l3 l6 false else L21_1 n l3 l6 true)else L21_1 n l3 l6 true)else L21_1 n l3 l6 true)
end
theorem T21 (n:Nat):∀⦃z1:Int⦄ ⦃s2:ByteArray⦄ ⦃l3:List D⦄ ⦃z4:Int⦄ ⦃s5:ByteArray⦄ ⦃l6:List D⦄ ⦃r1:Bool⦄,F21 n z1 s2 l3 z4 s5 l6=some r1→
    Trip Try.prog inv 21 [.d (.agg [.int .u8 z1,.str s2,.list true 3 l3]),.d (.agg [.int .u8 z4,.str s5,.list true 3 l6])] [] (.v (.d (.bool r1))) [] []:=by
 induction n using Nat.strongRecOn with | _ n ih=>
 obtain _ | n:=n
 ·intro z1 s2 l3 z4 s5 l6 r1 h
  cases (show (none:Option _)=some _ from h)
 intro z1 s2 l3 z4 s5 l6 r1 h
 rw[F21]at h
 refine Trip.of tab_ok tab_one fol Try.func21 rfl (by kernel_rfl) rfl rfl rfl (fun M hM hI=>?_)
 try cbv
 refine seq_go ?_
 try cbv
 refine seq_go ?_
 try cbv
 refine seq_join (T:=Nat×Bool) (fun t=>⟨[(2,.v (.c (.ptr (.loc 0) 0))),(3,.v (.c (.ptr (.loc 32) 0))),(4,.v (.d (.bool false))),(26,.v (.d (.bool t.2)))],[(.loc 0,.cells [.d (.int .u8 z1),.d (.str s2),.d (.list true 3 l3)]),(.loc 32,.cells [.d (.int .u8 z4),.d (.str s5),.d (.list true 3 l6)])],768⟩) (fun t=>t.1≤n∧L21_1 t.1 l3 l6 t.2=some r1) ?_ ?_
 ·try cbv
  refine splitI (fun e=>?_) (fun e=>?_)
  rotate_left
  ·replace h:=ite_f e h
   clear e
   try cbv
   exact join_next (n,true) [2,3,4,26] [.loc 0,.loc 32] 768 ⟨by omega,h⟩ (by cbv)
  replace h:=ite_t e h
  clear e
  try cbv
  refine splitS (fun e=>?_) (fun e=>?_)
  rotate_left
  ·replace h:=ite_f (bytes_ne.1 e) h
   clear e
   try cbv
   exact join_next (n,true) [2,3,4,26] [.loc 0,.loc 32] 768 ⟨by omega,h⟩ (by cbv)
  replace h:=ite_t (bytes_eq.1 e) h
  clear e
  try cbv
  replace h:=lenF_inv M h
  obtain⟨z7,hz,h⟩:=h
  refine⟨z7,hz,?_⟩
  clear hz
  try cbv
  replace h:=lenF_inv M h
  obtain⟨z8,hz,h⟩:=h
  refine⟨z8,hz,?_⟩
  clear hz
  try cbv
  refine splitI (fun e=>?_) (fun e=>?_)
  ·replace h:=ite_t e h
   clear e
   try cbv
   exact join_next (n,false) [2,3,4,26] [.loc 0,.loc 32] 768 ⟨by omega,h⟩ (by cbv)
  replace h:=ite_f e h
  clear e
  try cbv
  exact join_next (n,true) [2,3,4,26] [.loc 0,.loc 32] 768 ⟨by omega,h⟩ (by cbv)
 clear h
 rintro⟨m1,b9⟩ ⟨hm1,h⟩
 replace hm1:m1≤n:=hm1
 obtain _ | m1:=m1
 ·replace h:L21_1 0 l3 l6 b9=some r1:=h
  rw[L21_1]at h
  cases h
 replace h:L21_1 (m1+1) l3 l6 b9=some r1:=h
 rw[L21_1]at h
 try cbv
 cases b9
 rotate_left
 ·replace h:=ite_t rfl h
  try cbv
  refine seq_go ?_
  try cbv
  obtain rfl:=Option.some.inj h
  refine fin_go ?_
  try cbv
  exact⟨[],rfl,rfl,trivial,trivial,trivial⟩
 replace h:=ite_f Bool.false_ne_true h
 try cbv
 refine seq_go ?_
 try cbv
 refine seq_go ?_
 try cbv
 refine loop_inv (T:=Nat×Int) [2,3,4,5] [.loc 0,.loc 32] 800 (fun t=>⟨[(2,.v (.c (.ptr (.loc 0) 0))),(3,.v (.c (.ptr (.loc 32) 0))),(4,.v (.d (.bool false))),(5,.v (.d (.int .i64 t.2)))],[(.loc 0,.cells [.d (.int .u8 z1),.d (.str s2),.d (.list true 3 l3)]),(.loc 32,.cells [.d (.int .u8 z4),.d (.str s5),.d (.list true 3 l6)])],800⟩)
   (fun t=>t.1≤m1∧L21_2 t.1 l3 l6 t.2=some r1) (fun t=>t.1) (m1,(0:Int)) ⟨Nat.le_refl _,h⟩ (by cbv) ?_
 clear h
 rintro⟨m2,z10⟩ ⟨hm2,h⟩
 replace hm2:m2≤m1:=hm2
 obtain _ | m2:=m2
 ·replace h:L21_2 0 l3 l6 z10=some r1:=h
  rw[L21_2]at h
  cases h
 replace h:L21_2 (m2+1) l3 l6 z10=some r1:=h
 rw[L21_2]at h
 try cbv
 refine seq_go ?_
 try cbv
 refine seq_join (T:=Nat×Bool) (fun t=>⟨[(2,.v (.c (.ptr (.loc 0) 0))),(3,.v (.c (.ptr (.loc 32) 0))),(4,.v (.d (.bool false))),(5,.v (.d (.int .i64 z10))),(31,.v (.d (.bool t.2)))],[(.loc 0,.cells [.d (.int .u8 z1),.d (.str s2),.d (.list true 3 l3)]),(.loc 32,.cells [.d (.int .u8 z4),.d (.str s5),.d (.list true 3 l6)])],960⟩) (fun t=>t.1≤m2∧L21_3 t.1 l3 l6 z10 t.2=some r1) ?_ ?_
 ·try cbv
  replace h:=lenF_inv M h
  obtain⟨z11,hz,h⟩:=h
  refine⟨z11,hz,?_⟩
  clear hz
  try cbv
  refine splitL (fun e=>?_) (fun e=>?_)
  ·replace h:=ite_t e h
   clear e
   try cbv
   exact join_next (m2,true) [2,3,4,5,31] [.loc 0,.loc 32] 960 ⟨by omega,h⟩ (by cbv)
  replace h:=ite_f (Int.not_lt.2 e) h
  clear e
  try cbv
  exact join_next (m2,false) [2,3,4,5,31] [.loc 0,.loc 32] 960 ⟨by omega,h⟩ (by cbv)
 clear h
 rintro⟨m3,b12⟩ ⟨hm3,h⟩
 replace hm3:m3≤m2:=hm3
 obtain _ | m3:=m3
 ·replace h:L21_3 0 l3 l6 z10 b12=some r1:=h
  rw[L21_3]at h
  cases h
 replace h:L21_3 (m3+1) l3 l6 z10 b12=some r1:=h
 rw[L21_3]at h
 try cbv
 cases b12
 ·replace h:=ite_f Bool.false_ne_true h
  try cbv
  refine seq_go ?_
  try cbv
  obtain rfl:=Option.some.inj h
  refine fin_go ?_
  try cbv
  exact⟨[],rfl,rfl,trivial,trivial,trivial⟩
 replace h:=ite_t rfl h
 try cbv
 refine seq_go ?_
 try cbv
 refine seq_go ?_
 try cbv
 replace h:=getF_inv h
 obtain⟨x13,⟨hx0,hx⟩,h⟩:=h
 refine⟨x13,hx0,hx,?_⟩
 clear hx0 hx
 replace h:=ds_t27_inv h
 obtain⟨z14,s15,l16,rfl,h⟩:=h
 try cbv
 replace h:=getF_inv h
 obtain⟨x17,⟨hx0,hx⟩,h⟩:=h
 refine⟨x17,hx0,hx,?_⟩
 clear hx0 hx
 replace h:=ds_t27_inv h
 obtain⟨z18,s19,l20,rfl,h⟩:=h
 try cbv
 replace h:=bO1_inv h
 obtain⟨b21,hr,h⟩:=h
 first | refine .inr (.inl ⟨[],?_⟩) | refine .inl ⟨[],?_⟩
 try cbv
 refine call_pure hM hI ((ih _ (by omega)) hr) rfl ?_
 clear hr
 try cbv
 replace h:=letB_inv h
 obtain⟨b22,hz,h⟩:=h
 refine⟨b22,not_eq' hz,?_⟩
 clear hz
 try cbv
 refine drawn ?_ ?_
 ·show _=true
  kernel_rfl
 try cbv
 cases b22
 ·replace h:=ite_f Bool.false_ne_true h
  try cbv
  replace h:=letF_inv h
  obtain⟨z23,hz,h⟩:=h
  refine⟨z23,hz,?_⟩
  clear hz
  try cbv
  exact loop_next (m3,z23) [2,3,4,5] [.loc 0,.loc 32] 800 ⟨by omega,h⟩ (Nat.lt_succ_of_le (by omega)) (by cbv)
 replace h:=ite_t rfl h
 try cbv
 refine seq_go ?_
 try cbv
 obtain rfl:=Option.some.inj h
 refine fin_go ?_
 try cbv
 exact⟨[],rfl,rfl,trivial,trivial,trivial⟩
mutual
def L124_2:Nat→(List D)→(List D)→Int→Option (Bool)
 | 0,_,_,_=>none
 | n+1,l1,l2,z6=>
  lenF l1 fun z7=>(if z6<z7 then L124_3 n l1 l2 z6 true else L124_3 n l1 l2 z6 false)
def L124_3:Nat→(List D)→(List D)→Int→Bool→Option (Bool)
 | 0,_,_,_,_=>none
 | n+1,l1,l2,z6,b8=>
  (if b8=true then getF l1 z6 fun x9=>ds_str x9 fun s10=>getF l2 z6 fun x11=>ds_str x11 fun s12=>(if s10=s12 then L124_4 n l1 l2 z6 false else L124_4 n l1 l2 z6 true)else some true)
def L124_4:Nat→(List D)→(List D)→Int→Bool→Option (Bool)
 | 0,_,_,_,_=>none
 | n+1,l1,l2,z6,b13=>
  (if b13=true then some false else letF (IntKind.wrap .i64 (z6+1)) fun z14=>L124_2 n l1 l2 z14)
end
def L124_1:Nat→(List D)→(List D)→Bool→Option (Bool)
 | 0,_,_,_=>none
 | n+1,l1,l2,b5=>
  (if b5=true then some false else L124_2 n l1 l2 (0:Int))
def F124 (n:Nat) (l1:List D) (l2:List D):Option (Bool):=
 lenF l1 fun z3=>lenF l2 fun z4=>(if z3=z4 then L124_1 n l1 l2 false else L124_1 n l1 l2 true)
theorem T124 (n:Nat):∀⦃l1:List D⦄ ⦃l2:List D⦄ ⦃r1:Bool⦄,F124 n l1 l2=some r1→
    Trip Try.prog inv 124 [.d (.list false 1 l1),.d (.list false 1 l2)] [] (.v (.d (.bool r1))) [] []:=by
 intro l1 l2 r1 h
 unfold F124 at h
 refine Trip.of tab_ok tab_one fol Try.func124 rfl (by kernel_rfl) rfl rfl rfl (fun M hM hI=>?_)
 try cbv
 refine seq_go ?_
 try cbv
 refine seq_go ?_
 try cbv
 refine seq_join (T:=Nat×Bool) (fun t=>⟨[(0,.v (.d (.list false 1 l1))),(1,.v (.d (.list false 1 l2))),(4,.v (.d (.bool false))),(10,.v (.d (.bool t.2)))],[],192⟩) (fun t=>t.1≤n∧L124_1 t.1 l1 l2 t.2=some r1) ?_ ?_
 ·try cbv
  replace h:=lenF_inv M h
  obtain⟨z3,hz,h⟩:=h
  refine⟨z3,hz,?_⟩
  clear hz
  try cbv
  replace h:=lenF_inv M h
  obtain⟨z4,hz,h⟩:=h
  refine⟨z4,hz,?_⟩
  clear hz
  try cbv
  refine splitI (fun e=>?_) (fun e=>?_)
  ·replace h:=ite_t e h
   clear e
   try cbv
   exact join_next (n,false) [0,1,4,10] [] 192 ⟨by omega,h⟩ (by cbv)
  replace h:=ite_f e h
  clear e
  try cbv
  exact join_next (n,true) [0,1,4,10] [] 192 ⟨by omega,h⟩ (by cbv)
 clear h
 rintro⟨m1,b5⟩ ⟨hm1,h⟩
 replace hm1:m1≤n:=hm1
 obtain _ | m1:=m1
 ·replace h:L124_1 0 l1 l2 b5=some r1:=h
  rw[L124_1]at h
  cases h
 replace h:L124_1 (m1+1) l1 l2 b5=some r1:=h
 rw[L124_1]at h
 try cbv
 cases b5
 rotate_left
 ·replace h:=ite_t rfl h
  try cbv
  refine seq_go ?_
  try cbv
  obtain rfl:=Option.some.inj h
  refine fin_go ?_
  try cbv
  exact⟨[],rfl,rfl,trivial,trivial,trivial⟩
 replace h:=ite_f Bool.false_ne_true h
 try cbv
 refine seq_go ?_
 try cbv
 refine seq_go ?_
 try cbv
 refine loop_inv (T:=Nat×Int) [0,1,4,5] [] 224 (fun t=>⟨[(0,.v (.d (.list false 1 l1))),(1,.v (.d (.list false 1 l2))),(4,.v (.d (.bool false))),(5,.v (.d (.int .i64 t.2)))],[],224⟩)
   (fun t=>t.1≤m1∧L124_2 t.1 l1 l2 t.2=some r1) (fun t=>t.1) (m1,(0:Int)) ⟨Nat.le_refl _,h⟩ (by cbv) ?_
 clear h
 rintro⟨m2,z6⟩ ⟨hm2,h⟩
 replace hm2:m2≤m1:=hm2
 obtain _ | m2:=m2
 ·replace h:L124_2 0 l1 l2 z6=some r1:=h
  rw[L124_2]at h
  cases h
 replace h:L124_2 (m2+1) l1 l2 z6=some r1:=h
 rw[L124_2]at h
 try cbv
 refine seq_go ?_
 try cbv
 refine seq_join (T:=Nat×Bool) (fun t=>⟨[(0,.v (.d (.list false 1 l1))),(1,.v (.d (.list false 1 l2))),(4,.v (.d (.bool false))),(5,.v (.d (.int .i64 z6))),(14,.v (.d (.bool t.2)))],[],352⟩) (fun t=>t.1≤m2∧L124_3 t.1 l1 l2 z6 t.2=some r1) ?_ ?_
 ·try cbv
  replace h:=lenF_inv M h
  obtain⟨z7,hz,h⟩:=h
  refine⟨z7,hz,?_⟩
  clear hz
  try cbv
  refine splitL (fun e=>?_) (fun e=>?_)
  ·replace h:=ite_t e h
   clear e
   try cbv
   exact join_next (m2,true) [0,1,4,5,14] [] 352 ⟨by omega,h⟩ (by cbv)
  replace h:=ite_f (Int.not_lt.2 e) h
  clear e
  try cbv
  exact join_next (m2,false) [0,1,4,5,14] [] 352 ⟨by omega,h⟩ (by cbv)
 clear h
 rintro⟨m3,b8⟩ ⟨hm3,h⟩
 replace hm3:m3≤m2:=hm3
 obtain _ | m3:=m3
 ·replace h:L124_3 0 l1 l2 z6 b8=some r1:=h
  rw[L124_3]at h
  cases h
 replace h:L124_3 (m3+1) l1 l2 z6 b8=some r1:=h
 rw[L124_3]at h
 try cbv
 cases b8
 ·replace h:=ite_f Bool.false_ne_true h
  try cbv
  refine seq_go ?_
  try cbv
  obtain rfl:=Option.some.inj h
  refine fin_go ?_
  try cbv
  exact⟨[],rfl,rfl,trivial,trivial,trivial⟩
 replace h:=ite_t rfl h
 try cbv
 refine seq_go ?_
 try cbv
 refine seq_join (T:=Nat×Bool) (fun t=>⟨[(0,.v (.d (.list false 1 l1))),(1,.v (.d (.list false 1 l2))),(4,.v (.d (.bool false))),(5,.v (.d (.int .i64 z6))),(25,.v (.d (.bool t.2)))],[],640⟩) (fun t=>t.1≤m3∧L124_4 t.1 l1 l2 z6 t.2=some r1) ?_ ?_
 ·try cbv
  replace h:=getF_inv h
  obtain⟨x9,⟨hx0,hx⟩,h⟩:=h
  refine⟨x9,hx0,hx,?_⟩
  clear hx0 hx
  replace h:=ds_str_inv h
  obtain⟨s10,rfl,h⟩:=h
  try cbv
  replace h:=getF_inv h
  obtain⟨x11,⟨hx0,hx⟩,h⟩:=h
  refine⟨x11,hx0,hx,?_⟩
  clear hx0 hx
  replace h:=ds_str_inv h
  obtain⟨s12,rfl,h⟩:=h
  try cbv
  refine splitS (fun e=>?_) (fun e=>?_)
  ·replace h:=ite_t (bytes_eq.1 e) h
   clear e
   try cbv
   refine drawn ?_ ?_
   ·show _=true
    kernel_rfl
   try cbv
   exact join_next (m3,false) [0,1,4,5,25] [] 640 ⟨by omega,h⟩ (by cbv)
  replace h:=ite_f (bytes_ne.1 e) h
  clear e
  try cbv
  refine drawn ?_ ?_
  ·show _=true
   kernel_rfl
  try cbv
  exact join_next (m3,true) [0,1,4,5,25] [] 640 ⟨by omega,h⟩ (by cbv)
 clear h
 rintro⟨m4,b13⟩ ⟨hm4,h⟩
 replace hm4:m4≤m3:=hm4
 obtain _ | m4:=m4
 ·replace h:L124_4 0 l1 l2 z6 b13=some r1:=h
  rw[L124_4]at h
  cases h
 replace h:L124_4 (m4+1) l1 l2 z6 b13=some r1:=h
 rw[L124_4]at h
 try cbv
 cases b13
 ·replace h:=ite_f Bool.false_ne_true h
  try cbv
  replace h:=letF_inv h
  obtain⟨z14,hz,h⟩:=h
  refine⟨z14,hz,?_⟩
  clear hz
  try cbv
  exact loop_next (m4,z14) [0,1,4,5] [] 224 ⟨by omega,h⟩ (Nat.lt_succ_of_le (by omega)) (by cbv)
 replace h:=ite_t rfl h
 try cbv
 refine seq_go ?_
 try cbv
 obtain rfl:=Option.some.inj h
 refine fin_go ?_
 try cbv
 exact⟨[],rfl,rfl,trivial,trivial,trivial⟩
def F83 (n:Nat) (s1:ByteArray) (l2:List D) (s3:ByteArray) (l4:List D):Option (Bool):=
 (if s1=s3 then bO1 (F124 n l2 l4) fun b5=>some b5 else some false)
theorem T83 (n:Nat):∀⦃s1:ByteArray⦄ ⦃l2:List D⦄ ⦃s3:ByteArray⦄ ⦃l4:List D⦄ ⦃r1:Bool⦄,F83 n s1 l2 s3 l4=some r1→
    Trip Try.prog inv 83 [.d (.agg [.str s1,.list false 1 l2]),.d (.agg [.str s3,.list false 1 l4])] [] (.v (.d (.bool r1))) [] []:=by
 intro s1 l2 s3 l4 r1 h
 unfold F83 at h
 refine Trip.of tab_ok tab_one fol Try.func83 rfl (by kernel_rfl) rfl rfl rfl (fun M hM hI=>?_)
 try cbv
 refine seq_go ?_
 try cbv
 refine seq_go ?_
 try cbv
 refine splitS (fun e=>?_) (fun e=>?_)
 ·replace h:=ite_t (bytes_eq.1 e) h
  clear e
  try cbv
  replace h:=bO1_inv h
  obtain⟨b5,hr,h⟩:=h
  refine call_go rfl rfl ?_
  try cbv
  refine call_pure hM hI (T124 _ hr) rfl ?_
  clear hr
  try cbv
  obtain rfl:=Option.some.inj h
  refine fin_go ?_
  try cbv
  exact⟨[],rfl,rfl,trivial,trivial,trivial⟩
 replace h:=ite_f (bytes_ne.1 e) h
 clear e
 try cbv
 obtain rfl:=Option.some.inj h
 refine fin_go ?_
 try cbv
 exact⟨[],rfl,rfl,trivial,trivial,trivial⟩
mutual
def F23:Nat→Int→Int→ByteArray→ByteArray→ByteArray→(List D)→(List D)→Int→Int→Int→ByteArray→ByteArray→ByteArray→(List D)→(List D)→Int→Bool→Option (Bool)
 | 0,_,_,_,_,_,_,_,_,_,_,_,_,_,_,_,_,_=>none
 | n+1,z1,z2,s3,s4,s5,l6,l7,z8,z9,z10,s11,s12,s13,l14,l15,z16,b17=>
  (if z1=z9 then (if z2=z10 then (if s3=s11 then (if s4=s12 then letB (!b17) fun b18=>(if b18=true then bO1 (F83 n s5 l6 s13 l14) fun b19=>(if b19=true then bO1 (F84 n l7 l15 b17) fun b20=>some b20 else some false)else (if z8=z16 then bO1 (F83 n s5 l6 s13 l14) fun b21=>(if b21=true then bO1 (F84 n l7 l15 b17) fun b22=>some b22 else some false)else some false))else some false)else some false)else some false)else some false)
def L84_1:Nat→(List D)→(List D)→Bool→Bool→Option (Bool)
 | 0,_,_,_,_=>none
 | n+1,l1,l2,b3,b6=>
  (if b6=true then some false else L84_2 n l1 l2 b3 (0:Int))
def L84_2:Nat→(List D)→(List D)→Bool→Int→Option (Bool)
 | 0,_,_,_,_=>none
 | n+1,l1,l2,b3,z7=>
  lenF l1 fun z8=>(if z7<z8 then L84_3 n l1 l2 b3 z7 true else L84_3 n l1 l2 b3 z7 false)
def L84_3:Nat→(List D)→(List D)→Bool→Int→Bool→Option (Bool)
 | 0,_,_,_,_,_=>none
 | n+1,l1,l2,b3,z7,b9=>
  (if b9=true then getF l1 z7 fun x10=>ds_t33 x10 fun z11 z12 s13 s14 s15 l16 l17 z18=>getF l2 z7 fun x19=>ds_t33 x19 fun z20 z21 s22 s23 s24 l25 l26 z27=>bO1 (F23 n z11 z12 s13 s14 s15 l16 l17 z18 z20 z21 s22 s23 s24 l25 l26 z27 b3) fun b28=>letB (!b28) fun b29=>(if b29=true then some false else letF (IntKind.wrap .i64 (z7+1)) fun z30=>L84_2 n l1 l2 b3 z30)else some true)
def F84:Nat→(List D)→(List D)→Bool→Option (Bool)
 | 0,_,_,_=>none
 | n+1,l1,l2,b3=>
  lenF l1 fun z4=>lenF l2 fun z5=>(if z4=z5 then L84_1 n l1 l2 b3 false else L84_1 n l1 l2 b3 true)
end
theorem G23 (n:Nat):(∀⦃z1:Int⦄ ⦃z2:Int⦄ ⦃s3:ByteArray⦄ ⦃s4:ByteArray⦄ ⦃s5:ByteArray⦄ ⦃l6:List D⦄ ⦃l7:List D⦄ ⦃z8:Int⦄ ⦃z9:Int⦄ ⦃z10:Int⦄ ⦃s11:ByteArray⦄ ⦃s12:ByteArray⦄ ⦃s13:ByteArray⦄ ⦃l14:List D⦄ ⦃l15:List D⦄ ⦃z16:Int⦄ ⦃b17:Bool⦄ ⦃r1:Bool⦄,F23 n z1 z2 s3 s4 s5 l6 l7 z8 z9 z10 s11 s12 s13 l14 l15 z16 b17=some r1→
    Trip Try.prog inv 23 [.d (.agg [.int .u8 z1,.int .i64 z2,.str s3,.str s4,.str s5,.list false 1 l6,.list true 8 l7,.int .i64 z8]),.d (.agg [.int .u8 z9,.int .i64 z10,.str s11,.str s12,.str s13,.list false 1 l14,.list true 8 l15,.int .i64 z16]),.d (.bool b17)] [] (.v (.d (.bool r1))) [] [])∧
    (∀⦃l1:List D⦄ ⦃l2:List D⦄ ⦃b3:Bool⦄ ⦃r1:Bool⦄,F84 n l1 l2 b3=some r1→
    Trip Try.prog inv 84 [.d (.list true 8 l1),.d (.list true 8 l2),.d (.bool b3)] [] (.v (.d (.bool r1))) [] []):=by
 induction n using Nat.strongRecOn with | _ n ih=>
 obtain _ | n:=n
 ·refine⟨?_,?_⟩
  ·intro z1 z2 s3 s4 s5 l6 l7 z8 z9 z10 s11 s12 s13 l14 l15 z16 b17 r1 h
   cases (show (none:Option _)=some _ from h)
  intro l1 l2 b3 r1 h
  cases (show (none:Option _)=some _ from h)
 refine⟨?_,?_⟩
 ·intro z1 z2 s3 s4 s5 l6 l7 z8 z9 z10 s11 s12 s13 l14 l15 z16 b17 r1 h
  rw[F23]at h
  refine Trip.of tab_ok tab_one fol Try.func23 rfl (by kernel_rfl) rfl rfl rfl (fun M hM hI=>?_)
  try cbv
  refine seq_go ?_
  try cbv
  refine seq_go ?_
  try cbv
  refine splitI (fun e=>?_) (fun e=>?_)
  rotate_left
  ·replace h:=ite_f e h
   clear e
   try cbv
   obtain rfl:=Option.some.inj h
   refine fin_go ?_
   try cbv
   exact⟨[],rfl,rfl,trivial,trivial,trivial⟩
  replace h:=ite_t e h
  clear e
  try cbv
  refine splitI (fun e=>?_) (fun e=>?_)
  rotate_left
  ·replace h:=ite_f e h
   clear e
   try cbv
   obtain rfl:=Option.some.inj h
   refine fin_go ?_
   try cbv
   exact⟨[],rfl,rfl,trivial,trivial,trivial⟩
  replace h:=ite_t e h
  clear e
  try cbv
  refine splitS (fun e=>?_) (fun e=>?_)
  rotate_left
  ·replace h:=ite_f (bytes_ne.1 e) h
   clear e
   try cbv
   obtain rfl:=Option.some.inj h
   refine fin_go ?_
   try cbv
   exact⟨[],rfl,rfl,trivial,trivial,trivial⟩
  replace h:=ite_t (bytes_eq.1 e) h
  clear e
  try cbv
  refine splitS (fun e=>?_) (fun e=>?_)
  rotate_left
  ·replace h:=ite_f (bytes_ne.1 e) h
   clear e
   try cbv
   obtain rfl:=Option.some.inj h
   refine fin_go ?_
   try cbv
   exact⟨[],rfl,rfl,trivial,trivial,trivial⟩
  replace h:=ite_t (bytes_eq.1 e) h
  clear e
  try cbv
  replace h:=letB_inv h
  obtain⟨b18,hz,h⟩:=h
  refine⟨b18,not_eq' hz,?_⟩
  clear hz
  try cbv
  cases b18
  ·replace h:=ite_f Bool.false_ne_true h
   try cbv
   refine splitI (fun e=>?_) (fun e=>?_)
   rotate_left
   ·replace h:=ite_f e h
    clear e
    try cbv
    obtain rfl:=Option.some.inj h
    refine fin_go ?_
    try cbv
    exact⟨[],rfl,rfl,trivial,trivial,trivial⟩
   replace h:=ite_t e h
   clear e
   try cbv
   replace h:=bO1_inv h
   obtain⟨b21,hr,h⟩:=h
   refine call_go rfl rfl ?_
   try cbv
   refine call_pure hM hI (T83 _ hr) rfl ?_
   clear hr
   try cbv
   cases b21
   ·replace h:=ite_f Bool.false_ne_true h
    try cbv
    obtain rfl:=Option.some.inj h
    refine fin_go ?_
    try cbv
    exact⟨[],rfl,rfl,trivial,trivial,trivial⟩
   replace h:=ite_t rfl h
   try cbv
   replace h:=bO1_inv h
   obtain⟨b22,hr,h⟩:=h
   refine call_go rfl rfl ?_
   try cbv
   refine call_pure hM hI ((ih _ (by omega)).2 hr) rfl ?_
   clear hr
   try cbv
   obtain rfl:=Option.some.inj h
   refine fin_go ?_
   try cbv
   exact⟨[],rfl,rfl,trivial,trivial,trivial⟩
  replace h:=ite_t rfl h
  try cbv
  replace h:=bO1_inv h
  obtain⟨b19,hr,h⟩:=h
  refine call_go rfl rfl ?_
  try cbv
  refine call_pure hM hI (T83 _ hr) rfl ?_
  clear hr
  try cbv
  cases b19
  ·replace h:=ite_f Bool.false_ne_true h
   try cbv
   obtain rfl:=Option.some.inj h
   refine fin_go ?_
   try cbv
   exact⟨[],rfl,rfl,trivial,trivial,trivial⟩
  replace h:=ite_t rfl h
  try cbv
  replace h:=bO1_inv h
  obtain⟨b20,hr,h⟩:=h
  refine call_go rfl rfl ?_
  try cbv
  refine call_pure hM hI ((ih _ (by omega)).2 hr) rfl ?_
  clear hr
  try cbv
  obtain rfl:=Option.some.inj h
  refine fin_go ?_
  try cbv
  exact⟨[],rfl,rfl,trivial,trivial,trivial⟩
 intro l1 l2 b3 r1 h
 rw[F84]at h
 refine Trip.of tab_ok tab_one fol Try.func84 rfl (by kernel_rfl) rfl rfl rfl (fun M hM hI=>?_)
 try cbv
 refine seq_go ?_
 try cbv
 refine seq_go ?_
 try cbv
 refine seq_join (T:=Nat×Bool) (fun t=>⟨[(0,.v (.d (.list true 8 l1))),(1,.v (.d (.list true 8 l2))),(2,.v (.d (.bool b3))),(6,.v (.d (.bool false))),(12,.v (.d (.bool t.2)))],[],192⟩) (fun t=>t.1≤n∧L84_1 t.1 l1 l2 b3 t.2=some r1) ?_ ?_
 ·try cbv
  replace h:=lenF_inv M h
  obtain⟨z4,hz,h⟩:=h
  refine⟨z4,hz,?_⟩
  clear hz
  try cbv
  replace h:=lenF_inv M h
  obtain⟨z5,hz,h⟩:=h
  refine⟨z5,hz,?_⟩
  clear hz
  try cbv
  refine splitI (fun e=>?_) (fun e=>?_)
  ·replace h:=ite_t e h
   clear e
   try cbv
   exact join_next (n,false) [0,1,2,6,12] [] 192 ⟨by omega,h⟩ (by cbv)
  replace h:=ite_f e h
  clear e
  try cbv
  exact join_next (n,true) [0,1,2,6,12] [] 192 ⟨by omega,h⟩ (by cbv)
 clear h
 rintro⟨m1,b6⟩ ⟨hm1,h⟩
 replace hm1:m1≤n:=hm1
 obtain _ | m1:=m1
 ·replace h:L84_1 0 l1 l2 b3 b6=some r1:=h
  rw[L84_1]at h
  cases h
 replace h:L84_1 (m1+1) l1 l2 b3 b6=some r1:=h
 rw[L84_1]at h
 try cbv
 cases b6
 rotate_left
 ·replace h:=ite_t rfl h
  try cbv
  refine seq_go ?_
  try cbv
  obtain rfl:=Option.some.inj h
  refine fin_go ?_
  try cbv
  exact⟨[],rfl,rfl,trivial,trivial,trivial⟩
 replace h:=ite_f Bool.false_ne_true h
 try cbv
 refine seq_go ?_
 try cbv
 refine seq_go ?_
 try cbv
 refine loop_inv (T:=Nat×Int) [0,1,2,6,7] [] 224 (fun t=>⟨[(0,.v (.d (.list true 8 l1))),(1,.v (.d (.list true 8 l2))),(2,.v (.d (.bool b3))),(6,.v (.d (.bool false))),(7,.v (.d (.int .i64 t.2)))],[],224⟩)
   (fun t=>t.1≤m1∧L84_2 t.1 l1 l2 b3 t.2=some r1) (fun t=>t.1) (m1,(0:Int)) ⟨Nat.le_refl _,h⟩ (by cbv) ?_
 clear h
 rintro⟨m2,z7⟩ ⟨hm2,h⟩
 replace hm2:m2≤m1:=hm2
 obtain _ | m2:=m2
 ·replace h:L84_2 0 l1 l2 b3 z7=some r1:=h
  rw[L84_2]at h
  cases h
 replace h:L84_2 (m2+1) l1 l2 b3 z7=some r1:=h
 rw[L84_2]at h
 try cbv
 refine seq_go ?_
 try cbv
 refine seq_join (T:=Nat×Bool) (fun t=>⟨[(0,.v (.d (.list true 8 l1))),(1,.v (.d (.list true 8 l2))),(2,.v (.d (.bool b3))),(6,.v (.d (.bool false))),(7,.v (.d (.int .i64 z7))),(16,.v (.d (.bool t.2)))],[],352⟩) (fun t=>t.1≤m2∧L84_3 t.1 l1 l2 b3 z7 t.2=some r1) ?_ ?_
 ·try cbv
  replace h:=lenF_inv M h
  obtain⟨z8,hz,h⟩:=h
  refine⟨z8,hz,?_⟩
  clear hz
  try cbv
  refine splitL (fun e=>?_) (fun e=>?_)
  ·replace h:=ite_t e h
   clear e
   try cbv
   exact join_next (m2,true) [0,1,2,6,7,16] [] 352 ⟨by omega,h⟩ (by cbv)
  replace h:=ite_f (Int.not_lt.2 e) h
  clear e
  try cbv
  exact join_next (m2,false) [0,1,2,6,7,16] [] 352 ⟨by omega,h⟩ (by cbv)
 clear h
 rintro⟨m3,b9⟩ ⟨hm3,h⟩
 replace hm3:m3≤m2:=hm3
 obtain _ | m3:=m3
 ·replace h:L84_3 0 l1 l2 b3 z7 b9=some r1:=h
  rw[L84_3]at h
  cases h
 replace h:L84_3 (m3+1) l1 l2 b3 z7 b9=some r1:=h
 rw[L84_3]at h
 try cbv
 cases b9
 ·replace h:=ite_f Bool.false_ne_true h
  try cbv
  refine seq_go ?_
  try cbv
  obtain rfl:=Option.some.inj h
  refine fin_go ?_
  try cbv
  exact⟨[],rfl,rfl,trivial,trivial,trivial⟩
 replace h:=ite_t rfl h
 try cbv
 refine seq_go ?_
 try cbv
 refine seq_go ?_
 try cbv
 replace h:=getF_inv h
 obtain⟨x10,⟨hx0,hx⟩,h⟩:=h
 refine⟨x10,hx0,hx,?_⟩
 clear hx0 hx
 replace h:=ds_t33_inv h
 obtain⟨z11,z12,s13,s14,s15,l16,l17,z18,rfl,h⟩:=h
 try cbv
 replace h:=getF_inv h
 obtain⟨x19,⟨hx0,hx⟩,h⟩:=h
 refine⟨x19,hx0,hx,?_⟩
 clear hx0 hx
 replace h:=ds_t33_inv h
 obtain⟨z20,z21,s22,s23,s24,l25,l26,z27,rfl,h⟩:=h
 try cbv
 replace h:=bO1_inv h
 obtain⟨b28,hr,h⟩:=h
 first | refine .inr (.inl ⟨[],?_⟩) | refine .inl ⟨[],?_⟩
 try cbv
 refine call_pure hM hI ((ih _ (by omega)).1 hr) rfl ?_
 clear hr
 try cbv
 replace h:=letB_inv h
 obtain⟨b29,hz,h⟩:=h
 refine⟨b29,not_eq' hz,?_⟩
 clear hz
 try cbv
 refine drawn ?_ ?_
 ·show _=true
  kernel_rfl
 try cbv
 cases b29
 ·replace h:=ite_f Bool.false_ne_true h
  try cbv
  replace h:=letF_inv h
  obtain⟨z30,hz,h⟩:=h
  refine⟨z30,hz,?_⟩
  clear hz
  try cbv
  exact loop_next (m3,z30) [0,1,2,6,7] [] 224 ⟨by omega,h⟩ (Nat.lt_succ_of_le (by omega)) (by cbv)
 replace h:=ite_t rfl h
 try cbv
 refine seq_go ?_
 try cbv
 obtain rfl:=Option.some.inj h
 refine fin_go ?_
 try cbv
 exact⟨[],rfl,rfl,trivial,trivial,trivial⟩
theorem T23 (n:Nat):∀⦃z1:Int⦄ ⦃z2:Int⦄ ⦃s3:ByteArray⦄ ⦃s4:ByteArray⦄ ⦃s5:ByteArray⦄ ⦃l6:List D⦄ ⦃l7:List D⦄ ⦃z8:Int⦄ ⦃z9:Int⦄ ⦃z10:Int⦄ ⦃s11:ByteArray⦄ ⦃s12:ByteArray⦄ ⦃s13:ByteArray⦄ ⦃l14:List D⦄ ⦃l15:List D⦄ ⦃z16:Int⦄ ⦃b17:Bool⦄ ⦃r1:Bool⦄,F23 n z1 z2 s3 s4 s5 l6 l7 z8 z9 z10 s11 s12 s13 l14 l15 z16 b17=some r1→
  Trip Try.prog inv 23 [.d (.agg [.int .u8 z1,.int .i64 z2,.str s3,.str s4,.str s5,.list false 1 l6,.list true 8 l7,.int .i64 z8]),.d (.agg [.int .u8 z9,.int .i64 z10,.str s11,.str s12,.str s13,.list false 1 l14,.list true 8 l15,.int .i64 z16]),.d (.bool b17)] [] (.v (.d (.bool r1))) [] []:=(G23 n).1
theorem T84 (n:Nat):∀⦃l1:List D⦄ ⦃l2:List D⦄ ⦃b3:Bool⦄ ⦃r1:Bool⦄,F84 n l1 l2 b3=some r1→
  Trip Try.prog inv 84 [.d (.list true 8 l1),.d (.list true 8 l2),.d (.bool b3)] [] (.v (.d (.bool r1))) [] []:=(G23 n).2
mutual
def L78_2:Nat→(List D)→(List D)→Int→Option (Bool)
 | 0,_,_,_=>none
 | n+1,l1,l2,z6=>
  lenF l1 fun z7=>(if z6<z7 then L78_3 n l1 l2 z6 true else L78_3 n l1 l2 z6 false)
def L78_3:Nat→(List D)→(List D)→Int→Bool→Option (Bool)
 | 0,_,_,_,_=>none
 | n+1,l1,l2,z6,b8=>
  (if b8=true then getF l1 z6 fun x9=>ds_t136 x9 fun s10 z11 s12 l13=>getF l2 z6 fun x14=>ds_t136 x14 fun s15 z16 s17 l18=>(if s10=s15 then getF l1 z6 fun x19=>ds_t136 x19 fun s20 z21 s22 l23=>getF l2 z6 fun x24=>ds_t136 x24 fun s25 z26 s27 l28=>bO1 (F21 n z21 s22 l23 z26 s27 l28) fun b29=>letB (!b29) fun b30=>L78_4 n l1 l2 z6 b30 else L78_4 n l1 l2 z6 true)else some true)
def L78_4:Nat→(List D)→(List D)→Int→Bool→Option (Bool)
 | 0,_,_,_,_=>none
 | n+1,l1,l2,z6,b31=>
  (if b31=true then some false else letF (IntKind.wrap .i64 (z6+1)) fun z32=>L78_2 n l1 l2 z32)
end
def L78_1:Nat→(List D)→(List D)→Bool→Option (Bool)
 | 0,_,_,_=>none
 | n+1,l1,l2,b5=>
  (if b5=true then some false else L78_2 n l1 l2 (0:Int))
def F78 (n:Nat) (l1:List D) (l2:List D):Option (Bool):=
 lenF l1 fun z3=>lenF l2 fun z4=>(if z3=z4 then L78_1 n l1 l2 false else L78_1 n l1 l2 true)
theorem T78 (n:Nat):∀⦃l1:List D⦄ ⦃l2:List D⦄ ⦃r1:Bool⦄,F78 n l1 l2=some r1→
    Trip Try.prog inv 78 [.d (.list true 4 l1),.d (.list true 4 l2)] [] (.v (.d (.bool r1))) [] []:=by
 intro l1 l2 r1 h
 unfold F78 at h
 refine Trip.of tab_ok tab_one fol Try.func78 rfl (by kernel_rfl) rfl rfl rfl (fun M hM hI=>?_)
 try cbv
 refine seq_go ?_
 try cbv
 refine seq_go ?_
 try cbv
 refine seq_join (T:=Nat×Bool) (fun t=>⟨[(0,.v (.d (.list true 4 l1))),(1,.v (.d (.list true 4 l2))),(4,.v (.d (.bool false))),(10,.v (.d (.bool t.2)))],[],192⟩) (fun t=>t.1≤n∧L78_1 t.1 l1 l2 t.2=some r1) ?_ ?_
 ·try cbv
  replace h:=lenF_inv M h
  obtain⟨z3,hz,h⟩:=h
  refine⟨z3,hz,?_⟩
  clear hz
  try cbv
  replace h:=lenF_inv M h
  obtain⟨z4,hz,h⟩:=h
  refine⟨z4,hz,?_⟩
  clear hz
  try cbv
  refine splitI (fun e=>?_) (fun e=>?_)
  ·replace h:=ite_t e h
   clear e
   try cbv
   exact join_next (n,false) [0,1,4,10] [] 192 ⟨by omega,h⟩ (by cbv)
  replace h:=ite_f e h
  clear e
  try cbv
  exact join_next (n,true) [0,1,4,10] [] 192 ⟨by omega,h⟩ (by cbv)
 clear h
 rintro⟨m1,b5⟩ ⟨hm1,h⟩
 replace hm1:m1≤n:=hm1
 obtain _ | m1:=m1
 ·replace h:L78_1 0 l1 l2 b5=some r1:=h
  rw[L78_1]at h
  cases h
 replace h:L78_1 (m1+1) l1 l2 b5=some r1:=h
 rw[L78_1]at h
 try cbv
 cases b5
 rotate_left
 ·replace h:=ite_t rfl h
  try cbv
  refine seq_go ?_
  try cbv
  obtain rfl:=Option.some.inj h
  refine fin_go ?_
  try cbv
  exact⟨[],rfl,rfl,trivial,trivial,trivial⟩
 replace h:=ite_f Bool.false_ne_true h
 try cbv
 refine seq_go ?_
 try cbv
 refine seq_go ?_
 try cbv
 refine loop_inv (T:=Nat×Int) [0,1,4,5] [] 224 (fun t=>⟨[(0,.v (.d (.list true 4 l1))),(1,.v (.d (.list true 4 l2))),(4,.v (.d (.bool false))),(5,.v (.d (.int .i64 t.2)))],[],224⟩)
   (fun t=>t.1≤m1∧L78_2 t.1 l1 l2 t.2=some r1) (fun t=>t.1) (m1,(0:Int)) ⟨Nat.le_refl _,h⟩ (by cbv) ?_
 clear h
 rintro⟨m2,z6⟩ ⟨hm2,h⟩
 replace hm2:m2≤m1:=hm2
 obtain _ | m2:=m2
 ·replace h:L78_2 0 l1 l2 z6=some r1:=h
  rw[L78_2]at h
  cases h
 replace h:L78_2 (m2+1) l1 l2 z6=some r1:=h
 rw[L78_2]at h
 try cbv
 refine seq_go ?_
 try cbv
 refine seq_join (T:=Nat×Bool) (fun t=>⟨[(0,.v (.d (.list true 4 l1))),(1,.v (.d (.list true 4 l2))),(4,.v (.d (.bool false))),(5,.v (.d (.int .i64 z6))),(14,.v (.d (.bool t.2)))],[],352⟩) (fun t=>t.1≤m2∧L78_3 t.1 l1 l2 z6 t.2=some r1) ?_ ?_
 ·try cbv
  replace h:=lenF_inv M h
  obtain⟨z7,hz,h⟩:=h
  refine⟨z7,hz,?_⟩
  clear hz
  try cbv
  refine splitL (fun e=>?_) (fun e=>?_)
  ·replace h:=ite_t e h
   clear e
   try cbv
   exact join_next (m2,true) [0,1,4,5,14] [] 352 ⟨by omega,h⟩ (by cbv)
  replace h:=ite_f (Int.not_lt.2 e) h
  clear e
  try cbv
  exact join_next (m2,false) [0,1,4,5,14] [] 352 ⟨by omega,h⟩ (by cbv)
 clear h
 rintro⟨m3,b8⟩ ⟨hm3,h⟩
 replace hm3:m3≤m2:=hm3
 obtain _ | m3:=m3
 ·replace h:L78_3 0 l1 l2 z6 b8=some r1:=h
  rw[L78_3]at h
  cases h
 replace h:L78_3 (m3+1) l1 l2 z6 b8=some r1:=h
 rw[L78_3]at h
 try cbv
 cases b8
 ·replace h:=ite_f Bool.false_ne_true h
  try cbv
  refine seq_go ?_
  try cbv
  obtain rfl:=Option.some.inj h
  refine fin_go ?_
  try cbv
  exact⟨[],rfl,rfl,trivial,trivial,trivial⟩
 replace h:=ite_t rfl h
 try cbv
 refine seq_go ?_
 try cbv
 refine seq_join (T:=Nat×Bool) (fun t=>⟨[(0,.v (.d (.list true 4 l1))),(1,.v (.d (.list true 4 l2))),(4,.v (.d (.bool false))),(5,.v (.d (.int .i64 z6))),(41,.v (.d (.bool t.2)))],[],1152⟩) (fun t=>t.1≤m3∧L78_4 t.1 l1 l2 z6 t.2=some r1) ?_ ?_
 rotate_left
 ·clear h
  rintro⟨m4,b31⟩ ⟨hm4,h⟩
  replace hm4:m4≤m3:=hm4
  obtain _ | m4:=m4
  ·replace h:L78_4 0 l1 l2 z6 b31=some r1:=h
   rw[L78_4]at h
   cases h
  replace h:L78_4 (m4+1) l1 l2 z6 b31=some r1:=h
  rw[L78_4]at h
  try cbv
  cases b31
  ·replace h:=ite_f Bool.false_ne_true h
   try cbv
   replace h:=letF_inv h
   obtain⟨z32,hz,h⟩:=h
   refine⟨z32,hz,?_⟩
   clear hz
   try cbv
   exact loop_next (m4,z32) [0,1,4,5] [] 224 ⟨by omega,h⟩ (Nat.lt_succ_of_le (by omega)) (by cbv)
  replace h:=ite_t rfl h
  try cbv
  refine seq_go ?_
  try cbv
  obtain rfl:=Option.some.inj h
  refine fin_go ?_
  try cbv
  exact⟨[],rfl,rfl,trivial,trivial,trivial⟩
 try cbv
 replace h:=getF_inv h
 obtain⟨x9,⟨hx0,hx⟩,h⟩:=h
 refine⟨x9,hx0,hx,?_⟩
 clear hx0 hx
 replace h:=ds_t136_inv h
 obtain⟨s10,z11,s12,l13,rfl,h⟩:=h
 try cbv
 replace h:=getF_inv h
 obtain⟨x14,⟨hx0,hx⟩,h⟩:=h
 refine⟨x14,hx0,hx,?_⟩
 clear hx0 hx
 replace h:=ds_t136_inv h
 obtain⟨s15,z16,s17,l18,rfl,h⟩:=h
 try cbv
 refine splitS (fun e=>?_) (fun e=>?_)
 rotate_left
 ·replace h:=ite_f (bytes_ne.1 e) h
  clear e
  try cbv
  refine drawn ?_ ?_
  ·show _=true
   kernel_rfl
  try cbv
  exact join_next (m3,true) [0,1,4,5,41] [] 1152 ⟨by omega,h⟩ (by cbv)
 replace h:=ite_t (bytes_eq.1 e) h
 clear e
 try cbv
 replace h:=getF_inv h
 obtain⟨x19,⟨hx0,hx⟩,h⟩:=h
 refine⟨x19,hx0,hx,?_⟩
 clear hx0 hx
 replace h:=ds_t136_inv h
 obtain⟨s20,z21,s22,l23,rfl,h⟩:=h
 try cbv
 replace h:=getF_inv h
 obtain⟨x24,⟨hx0,hx⟩,h⟩:=h
 refine⟨x24,hx0,hx,?_⟩
 clear hx0 hx
 replace h:=ds_t136_inv h
 obtain⟨s25,z26,s27,l28,rfl,h⟩:=h
 try cbv
 replace h:=bO1_inv h
 obtain⟨b29,hr,h⟩:=h
 first | refine .inr (.inl ⟨[],?_⟩) | refine .inl ⟨[],?_⟩
 try cbv
 refine call_pure hM hI (T21 _ hr) rfl ?_
 clear hr
 try cbv
 replace h:=letB_inv h
 obtain⟨b30,hz,h⟩:=h
 refine⟨b30,not_eq' hz,?_⟩
 clear hz
 try cbv
 refine drawn ?_ ?_
 ·show _=true
  kernel_rfl
 try cbv
 exact join_next (m3,b30) [0,1,4,5,41] [] 1152 ⟨by omega,h⟩ (by cbv)
mutual
def L79_1:Nat→(List D)→(List D)→Bool→Bool→Option (Bool)
 | 0,_,_,_,_=>none
 | n+1,l1,l2,b3,b6=>
  (if b6=true then some false else L79_2 n l1 l2 b3 (0:Int))
def L79_2:Nat→(List D)→(List D)→Bool→Int→Option (Bool)
 | 0,_,_,_,_=>none
 | n+1,l1,l2,b7,z8=>
  lenF l1 fun z9=>(if z8<z9 then L79_3 n l1 l2 b7 z8 true else L79_3 n l1 l2 b7 z8 false)
def L79_3:Nat→(List D)→(List D)→Bool→Int→Bool→Option (Bool)
 | 0,_,_,_,_,_=>none
 | n+1,l1,l2,b7,z8,b10=>
  (if b10=true then getF l1 z8 fun x11=>ds_t152 x11 fun z12 s13 s14 l15 z16 s17 l18 z19 s20 l21 l22 l23 l24 l25 z26=>getF l2 z8 fun x27=>ds_t152 x27 fun z28 s29 s30 l31 z32 s33 l34 z35 s36 l37 l38 l39 l40 l41 z42=>(if z12=z28 then (if s13=s29 then (if s14=s30 then (if z19=z35 then (if b7=true then (if z26=z42 then lenF l25 fun z43=>lenF l41 fun z44=>(if z43=z44 then L79_4 n l1 l2 z8 l15 z16 s17 l18 s20 l21 l22 l23 l24 l25 l31 z32 s33 l34 s36 l37 l38 l39 l40 l41 true false else L79_4 n l1 l2 z8 l15 z16 s17 l18 s20 l21 l22 l23 l24 l25 l31 z32 s33 l34 s36 l37 l38 l39 l40 l41 true true)else L79_4 n l1 l2 z8 l15 z16 s17 l18 s20 l21 l22 l23 l24 l25 l31 z32 s33 l34 s36 l37 l38 l39 l40 l41 true true)else lenF l25 fun z45=>lenF l41 fun z46=>(if z45=z46 then L79_4 n l1 l2 z8 l15 z16 s17 l18 s20 l21 l22 l23 l24 l25 l31 z32 s33 l34 s36 l37 l38 l39 l40 l41 false false else L79_4 n l1 l2 z8 l15 z16 s17 l18 s20 l21 l22 l23 l24 l25 l31 z32 s33 l34 s36 l37 l38 l39 l40 l41 false true))else L79_4 n l1 l2 z8 l15 z16 s17 l18 s20 l21 l22 l23 l24 l25 l31 z32 s33 l34 s36 l37 l38 l39 l40 l41 b7 true)else L79_4 n l1 l2 z8 l15 z16 s17 l18 s20 l21 l22 l23 l24 l25 l31 z32 s33 l34 s36 l37 l38 l39 l40 l41 b7 true)else L79_4 n l1 l2 z8 l15 z16 s17 l18 s20 l21 l22 l23 l24 l25 l31 z32 s33 l34 s36 l37 l38 l39 l40 l41 b7 true)else L79_4 n l1 l2 z8 l15 z16 s17 l18 s20 l21 l22 l23 l24 l25 l31 z32 s33 l34 s36 l37 l38 l39 l40 l41 b7 true)else some true)
def L79_4:Nat→(List D)→(List D)→Int→(List D)→Int→ByteArray→(List D)→ByteArray→(List D)→(List D)→(List D)→(List D)→(List D)→(List D)→Int→ByteArray→(List D)→ByteArray→(List D)→(List D)→(List D)→(List D)→(List D)→Bool→Bool→Option (Bool)
 | 0,_,_,_,_,_,_,_,_,_,_,_,_,_,_,_,_,_,_,_,_,_,_,_,_,_=>none
 | n+1,l1,l2,z8,l15,z16,s17,l18,s20,l21,l22,l23,l24,l25,l31,z32,s33,l34,s36,l37,l38,l39,l40,l41,b47,b48=>
  (if b48=true then some false else bO1 (F124 n l15 l31) fun b49=>letB (!b49) fun b50=>(if b50=true then L79_5 n l1 l2 z8 l25 l41 b47 true else bO1 (F21 n z16 s17 l18 z32 s33 l34) fun b51=>letB (!b51) fun b52=>(if b52=true then L79_5 n l1 l2 z8 l25 l41 b47 true else bO1 (F83 n s20 l21 s36 l37) fun b53=>letB (!b53) fun b54=>(if b54=true then L79_5 n l1 l2 z8 l25 l41 b47 true else bO1 (F84 n l22 l38 b47) fun b55=>letB (!b55) fun b56=>(if b56=true then L79_5 n l1 l2 z8 l25 l41 b47 true else bO1 (F79 n l23 l39 b47) fun b57=>letB (!b57) fun b58=>(if b58=true then L79_5 n l1 l2 z8 l25 l41 b47 true else bO1 (F79 n l24 l40 b47) fun b59=>letB (!b59) fun b60=>L79_5 n l1 l2 z8 l25 l41 b47 b60))))))
def L79_5:Nat→(List D)→(List D)→Int→(List D)→(List D)→Bool→Bool→Option (Bool)
 | 0,_,_,_,_,_,_,_=>none
 | n+1,l1,l2,z8,l25,l41,b47,b61=>
  (if b61=true then some false else L79_6 n l1 l2 z8 l25 l41 b47 (0:Int))
def L79_6:Nat→(List D)→(List D)→Int→(List D)→(List D)→Bool→Int→Option (Bool)
 | 0,_,_,_,_,_,_,_=>none
 | n+1,l1,l2,z8,l25,l41,b47,z62=>
  lenF l25 fun z63=>(if z62<z63 then L79_7 n l1 l2 z8 l25 l41 b47 z62 true else L79_7 n l1 l2 z8 l25 l41 b47 z62 false)
def L79_7:Nat→(List D)→(List D)→Int→(List D)→(List D)→Bool→Int→Bool→Option (Bool)
 | 0,_,_,_,_,_,_,_,_=>none
 | n+1,l1,l2,z8,l25,l41,b47,z62,b64=>
  (if b64=true then getF l25 z62 fun x65=>ds_t154 x65 fun s66 s67 l68=>getF l41 z62 fun x69=>ds_t154 x69 fun s70 s71 l72=>(if s66=s70 then getF l25 z62 fun x73=>ds_t154 x73 fun s74 s75 l76=>getF l41 z62 fun x77=>ds_t154 x77 fun s78 s79 l80=>(if s75=s79 then getF l25 z62 fun x81=>ds_t154 x81 fun s82 s83 l84=>getF l41 z62 fun x85=>ds_t154 x85 fun s86 s87 l88=>bO1 (F79 n l84 l88 b47) fun b89=>letB (!b89) fun b90=>L79_8 n l1 l2 z8 l25 l41 b47 z62 b90 else L79_8 n l1 l2 z8 l25 l41 b47 z62 true)else L79_8 n l1 l2 z8 l25 l41 b47 z62 true)else letF (IntKind.wrap .i64 (z8+1)) fun z93=>L79_2 n l1 l2 b47 z93)
def L79_8:Nat→(List D)→(List D)→Int→(List D)→(List D)→Bool→Int→Bool→Option (Bool)
 | 0,_,_,_,_,_,_,_,_=>none
 | n+1,l1,l2,z8,l25,l41,b47,z62,b91=>
  (if b91=true then some false else letF (IntKind.wrap .i64 (z62+1)) fun z92=>L79_6 n l1 l2 z8 l25 l41 b47 z92)
def F79:Nat→(List D)→(List D)→Bool→Option (Bool)
 | 0,_,_,_=>none
 | n+1,l1,l2,b3=>
  lenF l1 fun z4=>lenF l2 fun z5=>(if z4=z5 then L79_1 n l1 l2 b3 false else L79_1 n l1 l2 b3 true)
end
theorem T79 (n:Nat):∀⦃l1:List D⦄ ⦃l2:List D⦄ ⦃b3:Bool⦄ ⦃r1:Bool⦄,F79 n l1 l2 b3=some r1→
    Trip Try.prog inv 79 [.d (.list true 15 l1),.d (.list true 15 l2),.d (.bool b3)] [] (.v (.d (.bool r1))) [] []:=by
 induction n using Nat.strongRecOn with | _ n ih=>
 obtain _ | n:=n
 ·intro l1 l2 b3 r1 h
  cases (show (none:Option _)=some _ from h)
 intro l1 l2 b3 r1 h
 rw[F79]at h
 refine Trip.of tab_ok tab_one fol Try.func79 rfl (by kernel_rfl) rfl rfl rfl (fun M hM hI=>?_)
 try cbv
 refine seq_go ?_
 try cbv
 refine seq_go ?_
 try cbv
 refine seq_join (T:=Nat×Bool) (fun t=>⟨[(0,.v (.d (.list true 15 l1))),(1,.v (.d (.list true 15 l2))),(2,.v (.d (.bool b3))),(6,.v (.d (.bool false))),(15,.v (.d (.bool t.2)))],[],192⟩) (fun t=>t.1≤n∧L79_1 t.1 l1 l2 b3 t.2=some r1) ?_ ?_
 ·try cbv
  replace h:=lenF_inv M h
  obtain⟨z4,hz,h⟩:=h
  refine⟨z4,hz,?_⟩
  clear hz
  try cbv
  replace h:=lenF_inv M h
  obtain⟨z5,hz,h⟩:=h
  refine⟨z5,hz,?_⟩
  clear hz
  try cbv
  refine splitI (fun e=>?_) (fun e=>?_)
  ·replace h:=ite_t e h
   clear e
   try cbv
   exact join_next (n,false) [0,1,2,6,15] [] 192 ⟨by omega,h⟩ (by cbv)
  replace h:=ite_f e h
  clear e
  try cbv
  exact join_next (n,true) [0,1,2,6,15] [] 192 ⟨by omega,h⟩ (by cbv)
 clear h
 rintro⟨m1,b6⟩ ⟨hm1,h⟩
 replace hm1:m1≤n:=hm1
 obtain _ | m1:=m1
 ·replace h:L79_1 0 l1 l2 b3 b6=some r1:=h
  rw[L79_1]at h
  cases h
 replace h:L79_1 (m1+1) l1 l2 b3 b6=some r1:=h
 rw[L79_1]at h
 try cbv
 cases b6
 rotate_left
 ·replace h:=ite_t rfl h
  try cbv
  refine seq_go ?_
  try cbv
  obtain rfl:=Option.some.inj h
  refine fin_go ?_
  try cbv
  exact⟨[],rfl,rfl,trivial,trivial,trivial⟩
 replace h:=ite_f Bool.false_ne_true h
 try cbv
 refine seq_go ?_
 try cbv
 refine seq_go ?_
 try cbv
 refine loop_inv (T:=Nat×Bool×Int) [0,1,2,6,7] [] 224 (fun t=>⟨[(0,.v (.d (.list true 15 l1))),(1,.v (.d (.list true 15 l2))),(2,.v (.d (.bool t.2.1))),(6,.v (.d (.bool false))),(7,.v (.d (.int .i64 t.2.2)))],[],224⟩)
   (fun t=>t.1≤m1∧L79_2 t.1 l1 l2 t.2.1 t.2.2=some r1) (fun t=>t.1) (m1,(b3,(0:Int))) ⟨Nat.le_refl _,h⟩ (by cbv) ?_
 clear h
 rintro⟨m2,b7,z8⟩ ⟨hm2,h⟩
 replace hm2:m2≤m1:=hm2
 obtain _ | m2:=m2
 ·replace h:L79_2 0 l1 l2 b7 z8=some r1:=h
  rw[L79_2]at h
  cases h
 replace h:L79_2 (m2+1) l1 l2 b7 z8=some r1:=h
 rw[L79_2]at h
 try cbv
 refine seq_go ?_
 try cbv
 refine seq_join (T:=Nat×Bool) (fun t=>⟨[(0,.v (.d (.list true 15 l1))),(1,.v (.d (.list true 15 l2))),(2,.v (.d (.bool b7))),(6,.v (.d (.bool false))),(7,.v (.d (.int .i64 z8))),(19,.v (.d (.bool t.2)))],[],352⟩) (fun t=>t.1≤m2∧L79_3 t.1 l1 l2 b7 z8 t.2=some r1) ?_ ?_
 ·try cbv
  replace h:=lenF_inv M h
  obtain⟨z9,hz,h⟩:=h
  refine⟨z9,hz,?_⟩
  clear hz
  try cbv
  refine splitL (fun e=>?_) (fun e=>?_)
  ·replace h:=ite_t e h
   clear e
   try cbv
   exact join_next (m2,true) [0,1,2,6,7,19] [] 352 ⟨by omega,h⟩ (by cbv)
  replace h:=ite_f (Int.not_lt.2 e) h
  clear e
  try cbv
  exact join_next (m2,false) [0,1,2,6,7,19] [] 352 ⟨by omega,h⟩ (by cbv)
 clear h
 rintro⟨m3,b10⟩ ⟨hm3,h⟩
 replace hm3:m3≤m2:=hm3
 obtain _ | m3:=m3
 ·replace h:L79_3 0 l1 l2 b7 z8 b10=some r1:=h
  rw[L79_3]at h
  cases h
 replace h:L79_3 (m3+1) l1 l2 b7 z8 b10=some r1:=h
 rw[L79_3]at h
 try cbv
 cases b10
 ·replace h:=ite_f Bool.false_ne_true h
  try cbv
  refine seq_go ?_
  try cbv
  obtain rfl:=Option.some.inj h
  refine fin_go ?_
  try cbv
  exact⟨[],rfl,rfl,trivial,trivial,trivial⟩
 replace h:=ite_t rfl h
 try cbv
 refine seq_go ?_
 try cbv
 refine seq_go ?_
 try cbv
 replace h:=getF_inv h
 obtain⟨x11,⟨hx0,hx⟩,h⟩:=h
 refine⟨x11,hx0,hx,?_⟩
 clear hx0 hx
 replace h:=ds_t152_inv h
 obtain⟨z12,s13,s14,l15,z16,s17,l18,z19,s20,l21,l22,l23,l24,l25,z26,rfl,h⟩:=h
 try cbv
 replace h:=getF_inv h
 obtain⟨x27,⟨hx0,hx⟩,h⟩:=h
 refine⟨x27,hx0,hx,?_⟩
 clear hx0 hx
 replace h:=ds_t152_inv h
 obtain⟨z28,s29,s30,l31,z32,s33,l34,z35,s36,l37,l38,l39,l40,l41,z42,rfl,h⟩:=h
 try cbv
 refine drawn ?_ ?_
 ·show _=true
  kernel_rfl
 try cbv
 refine seq_go ?_
 try cbv
 refine seq_join (T:=Nat×Bool×Bool) (fun t=>⟨[(0,.v (.d (.list true 15 l1))),(1,.v (.d (.list true 15 l2))),(2,.v (.d (.bool t.2.1))),(6,.v (.d (.bool false))),(7,.v (.d (.int .i64 z8))),(8,.v (.c (.ptr (.loc 608) 0))),(9,.v (.c (.ptr (.loc 640) 0))),(74,.v (.d (.bool t.2.2)))],[(.loc 608,.cells [.d (.int .u8 z12),.d (.str s13),.d (.str s14),.d (.list false 1 l15),.d (.int .u8 z16),.d (.str s17),.d (.list true 3 l18),.d (.int .i64 z19),.d (.str s20),.d (.list false 1 l21),.d (.list true 8 l22),.d (.list true 15 l23),.d (.list true 15 l24),.d (.list true 3 l25),.d (.int .i64 z26)]),(.loc 640,.cells [.d (.int .u8 z28),.d (.str s29),.d (.str s30),.d (.list false 1 l31),.d (.int .u8 z32),.d (.str s33),.d (.list true 3 l34),.d (.int .i64 z35),.d (.str s36),.d (.list false 1 l37),.d (.list true 8 l38),.d (.list true 15 l39),.d (.list true 15 l40),.d (.list true 3 l41),.d (.int .i64 z42)])],2176⟩) (fun t=>t.1≤m3∧L79_4 t.1 l1 l2 z8 l15 z16 s17 l18 s20 l21 l22 l23 l24 l25 l31 z32 s33 l34 s36 l37 l38 l39 l40 l41 t.2.1 t.2.2=some r1) ?_ ?_
 ·try cbv
  refine splitI (fun e=>?_) (fun e=>?_)
  rotate_left
  ·replace h:=ite_f e h
   clear e
   try cbv
   exact join_next (m3,(b7,true)) [0,1,2,6,7,8,9,74] [.loc 608,.loc 640] 2176 ⟨by omega,h⟩ (by cbv)
  replace h:=ite_t e h
  clear e
  try cbv
  refine splitS (fun e=>?_) (fun e=>?_)
  rotate_left
  ·replace h:=ite_f (bytes_ne.1 e) h
   clear e
   try cbv
   exact join_next (m3,(b7,true)) [0,1,2,6,7,8,9,74] [.loc 608,.loc 640] 2176 ⟨by omega,h⟩ (by cbv)
  replace h:=ite_t (bytes_eq.1 e) h
  clear e
  try cbv
  refine splitS (fun e=>?_) (fun e=>?_)
  rotate_left
  ·replace h:=ite_f (bytes_ne.1 e) h
   clear e
   try cbv
   exact join_next (m3,(b7,true)) [0,1,2,6,7,8,9,74] [.loc 608,.loc 640] 2176 ⟨by omega,h⟩ (by cbv)
  replace h:=ite_t (bytes_eq.1 e) h
  clear e
  try cbv
  refine splitI (fun e=>?_) (fun e=>?_)
  rotate_left
  ·replace h:=ite_f e h
   clear e
   try cbv
   exact join_next (m3,(b7,true)) [0,1,2,6,7,8,9,74] [.loc 608,.loc 640] 2176 ⟨by omega,h⟩ (by cbv)
  replace h:=ite_t e h
  clear e
  try cbv
  cases b7
  ·replace h:=ite_f Bool.false_ne_true h
   try cbv
   replace h:=lenF_inv M h
   obtain⟨z45,hz,h⟩:=h
   refine⟨z45,hz,?_⟩
   clear hz
   try cbv
   replace h:=lenF_inv M h
   obtain⟨z46,hz,h⟩:=h
   refine⟨z46,hz,?_⟩
   clear hz
   try cbv
   refine splitI (fun e=>?_) (fun e=>?_)
   ·replace h:=ite_t e h
    clear e
    try cbv
    exact join_next (m3,(false,false)) [0,1,2,6,7,8,9,74] [.loc 608,.loc 640] 2176 ⟨by omega,h⟩ (by cbv)
   replace h:=ite_f e h
   clear e
   try cbv
   exact join_next (m3,(false,true)) [0,1,2,6,7,8,9,74] [.loc 608,.loc 640] 2176 ⟨by omega,h⟩ (by cbv)
  replace h:=ite_t rfl h
  try cbv
  refine splitI (fun e=>?_) (fun e=>?_)
  rotate_left
  ·replace h:=ite_f e h
   clear e
   try cbv
   exact join_next (m3,(true,true)) [0,1,2,6,7,8,9,74] [.loc 608,.loc 640] 2176 ⟨by omega,h⟩ (by cbv)
  replace h:=ite_t e h
  clear e
  try cbv
  replace h:=lenF_inv M h
  obtain⟨z43,hz,h⟩:=h
  refine⟨z43,hz,?_⟩
  clear hz
  try cbv
  replace h:=lenF_inv M h
  obtain⟨z44,hz,h⟩:=h
  refine⟨z44,hz,?_⟩
  clear hz
  try cbv
  refine splitI (fun e=>?_) (fun e=>?_)
  ·replace h:=ite_t e h
   clear e
   try cbv
   exact join_next (m3,(true,false)) [0,1,2,6,7,8,9,74] [.loc 608,.loc 640] 2176 ⟨by omega,h⟩ (by cbv)
  replace h:=ite_f e h
  clear e
  try cbv
  exact join_next (m3,(true,true)) [0,1,2,6,7,8,9,74] [.loc 608,.loc 640] 2176 ⟨by omega,h⟩ (by cbv)
 clear h
 rintro⟨m4,b47,b48⟩ ⟨hm4,h⟩
 replace hm4:m4≤m3:=hm4
 obtain _ | m4:=m4
 ·replace h:L79_4 0 l1 l2 z8 l15 z16 s17 l18 s20 l21 l22 l23 l24 l25 l31 z32 s33 l34 s36 l37 l38 l39 l40 l41 b47 b48=some r1:=h
  rw[L79_4]at h
  cases h
 replace h:L79_4 (m4+1) l1 l2 z8 l15 z16 s17 l18 s20 l21 l22 l23 l24 l25 l31 z32 s33 l34 s36 l37 l38 l39 l40 l41 b47 b48=some r1:=h
 rw[L79_4]at h
 try cbv
 cases b48
 rotate_left
 ·replace h:=ite_t rfl h
  try cbv
  refine seq_go ?_
  try cbv
  obtain rfl:=Option.some.inj h
  refine fin_go ?_
  try cbv
  exact⟨[],rfl,rfl,trivial,trivial,trivial⟩
 replace h:=ite_f Bool.false_ne_true h
 try cbv
 refine seq_go ?_
 try cbv
 refine seq_join (T:=Nat×Bool) (fun t=>⟨[(0,.v (.d (.list true 15 l1))),(1,.v (.d (.list true 15 l2))),(2,.v (.d (.bool b47))),(6,.v (.d (.bool false))),(7,.v (.d (.int .i64 z8))),(8,.v (.c (.ptr (.loc 608) 0))),(9,.v (.c (.ptr (.loc 640) 0))),(123,.v (.d (.bool t.2)))],[(.loc 608,.cells [.d (.int .u8 z12),.d (.str s13),.d (.str s14),.d (.list false 1 l15),.d (.int .u8 z16),.d (.str s17),.d (.list true 3 l18),.d (.int .i64 z19),.d (.str s20),.d (.list false 1 l21),.d (.list true 8 l22),.d (.list true 15 l23),.d (.list true 15 l24),.d (.list true 3 l25),.d (.int .i64 z26)]),(.loc 640,.cells [.d (.int .u8 z28),.d (.str s29),.d (.str s30),.d (.list false 1 l31),.d (.int .u8 z32),.d (.str s33),.d (.list true 3 l34),.d (.int .i64 z35),.d (.str s36),.d (.list false 1 l37),.d (.list true 8 l38),.d (.list true 15 l39),.d (.list true 15 l40),.d (.list true 3 l41),.d (.int .i64 z42)])],3744⟩) (fun t=>t.1≤m4∧L79_5 t.1 l1 l2 z8 l25 l41 b47 t.2=some r1) ?_ ?_
 ·try cbv
  replace h:=bO1_inv h
  obtain⟨b49,hr,h⟩:=h
  refine call_go rfl rfl ?_
  try cbv
  refine call_pure hM hI (T124 _ hr) rfl ?_
  clear hr
  try cbv
  replace h:=letB_inv h
  obtain⟨b50,hz,h⟩:=h
  refine⟨b50,not_eq' hz,?_⟩
  clear hz
  try cbv
  cases b50
  rotate_left
  ·replace h:=ite_t rfl h
   try cbv
   exact join_next (m4,true) [0,1,2,6,7,8,9,123] [.loc 608,.loc 640] 3744 ⟨by omega,h⟩ (by cbv)
  replace h:=ite_f Bool.false_ne_true h
  try cbv
  replace h:=bO1_inv h
  obtain⟨b51,hr,h⟩:=h
  refine call_go rfl rfl ?_
  try cbv
  refine call_pure hM hI (T21 _ hr) rfl ?_
  clear hr
  try cbv
  replace h:=letB_inv h
  obtain⟨b52,hz,h⟩:=h
  refine⟨b52,not_eq' hz,?_⟩
  clear hz
  try cbv
  cases b52
  rotate_left
  ·replace h:=ite_t rfl h
   try cbv
   exact join_next (m4,true) [0,1,2,6,7,8,9,123] [.loc 608,.loc 640] 3744 ⟨by omega,h⟩ (by cbv)
  replace h:=ite_f Bool.false_ne_true h
  try cbv
  replace h:=bO1_inv h
  obtain⟨b53,hr,h⟩:=h
  refine call_go rfl rfl ?_
  try cbv
  refine call_pure hM hI (T83 _ hr) rfl ?_
  clear hr
  try cbv
  replace h:=letB_inv h
  obtain⟨b54,hz,h⟩:=h
  refine⟨b54,not_eq' hz,?_⟩
  clear hz
  try cbv
  cases b54
  rotate_left
  ·replace h:=ite_t rfl h
   try cbv
   exact join_next (m4,true) [0,1,2,6,7,8,9,123] [.loc 608,.loc 640] 3744 ⟨by omega,h⟩ (by cbv)
  replace h:=ite_f Bool.false_ne_true h
  try cbv
  replace h:=bO1_inv h
  obtain⟨b55,hr,h⟩:=h
  refine call_go rfl rfl ?_
  try cbv
  refine call_pure hM hI (T84 _ hr) rfl ?_
  clear hr
  try cbv
  replace h:=letB_inv h
  obtain⟨b56,hz,h⟩:=h
  refine⟨b56,not_eq' hz,?_⟩
  clear hz
  try cbv
  cases b56
  rotate_left
  ·replace h:=ite_t rfl h
   try cbv
   exact join_next (m4,true) [0,1,2,6,7,8,9,123] [.loc 608,.loc 640] 3744 ⟨by omega,h⟩ (by cbv)
  replace h:=ite_f Bool.false_ne_true h
  try cbv
  replace h:=bO1_inv h
  obtain⟨b57,hr,h⟩:=h
  refine call_go rfl rfl ?_
  try cbv
  refine call_pure hM hI ((ih _ (by omega)) hr) rfl ?_
  clear hr
  try cbv
  replace h:=letB_inv h
  obtain⟨b58,hz,h⟩:=h
  refine⟨b58,not_eq' hz,?_⟩
  clear hz
  try cbv
  cases b58
  ·replace h:=ite_f Bool.false_ne_true h
   try cbv
   replace h:=bO1_inv h
   obtain⟨b59,hr,h⟩:=h
   refine call_go rfl rfl ?_
   try cbv
   refine call_pure hM hI ((ih _ (by omega)) hr) rfl ?_
   clear hr
   try cbv
   replace h:=letB_inv h
   obtain⟨b60,hz,h⟩:=h
   refine⟨b60,not_eq' hz,?_⟩
   clear hz
   try cbv
   exact join_next (m4,b60) [0,1,2,6,7,8,9,123] [.loc 608,.loc 640] 3744 ⟨by omega,h⟩ (by cbv)
  replace h:=ite_t rfl h
  try cbv
  exact join_next (m4,true) [0,1,2,6,7,8,9,123] [.loc 608,.loc 640] 3744 ⟨by omega,h⟩ (by cbv)
 clear h
 rintro⟨m5,b61⟩ ⟨hm5,h⟩
 replace hm5:m5≤m4:=hm5
 obtain _ | m5:=m5
 ·replace h:L79_5 0 l1 l2 z8 l25 l41 b47 b61=some r1:=h
  rw[L79_5]at h
  cases h
 replace h:L79_5 (m5+1) l1 l2 z8 l25 l41 b47 b61=some r1:=h
 rw[L79_5]at h
 try cbv
 cases b61
 rotate_left
 ·replace h:=ite_t rfl h
  try cbv
  refine seq_go ?_
  try cbv
  obtain rfl:=Option.some.inj h
  refine fin_go ?_
  try cbv
  exact⟨[],rfl,rfl,trivial,trivial,trivial⟩
 replace h:=ite_f Bool.false_ne_true h
 try cbv
 refine seq_go ?_
 try cbv
 refine loop_inv (T:=Nat×Int) [0,1,2,6,7,8,9,10] [.loc 608,.loc 640] 3776 (fun t=>⟨[(0,.v (.d (.list true 15 l1))),(1,.v (.d (.list true 15 l2))),(2,.v (.d (.bool b47))),(6,.v (.d (.bool false))),(7,.v (.d (.int .i64 z8))),(8,.v (.c (.ptr (.loc 608) 0))),(9,.v (.c (.ptr (.loc 640) 0))),(10,.v (.d (.int .i64 t.2)))],[(.loc 608,.cells [.d (.int .u8 z12),.d (.str s13),.d (.str s14),.d (.list false 1 l15),.d (.int .u8 z16),.d (.str s17),.d (.list true 3 l18),.d (.int .i64 z19),.d (.str s20),.d (.list false 1 l21),.d (.list true 8 l22),.d (.list true 15 l23),.d (.list true 15 l24),.d (.list true 3 l25),.d (.int .i64 z26)]),(.loc 640,.cells [.d (.int .u8 z28),.d (.str s29),.d (.str s30),.d (.list false 1 l31),.d (.int .u8 z32),.d (.str s33),.d (.list true 3 l34),.d (.int .i64 z35),.d (.str s36),.d (.list false 1 l37),.d (.list true 8 l38),.d (.list true 15 l39),.d (.list true 15 l40),.d (.list true 3 l41),.d (.int .i64 z42)])],3776⟩)
   (fun t=>t.1≤m5∧L79_6 t.1 l1 l2 z8 l25 l41 b47 t.2=some r1) (fun t=>t.1) (m5,(0:Int)) ⟨Nat.le_refl _,h⟩ (by cbv) ?_
 clear h
 rintro⟨m6,z62⟩ ⟨hm6,h⟩
 replace hm6:m6≤m5:=hm6
 obtain _ | m6:=m6
 ·replace h:L79_6 0 l1 l2 z8 l25 l41 b47 z62=some r1:=h
  rw[L79_6]at h
  cases h
 replace h:L79_6 (m6+1) l1 l2 z8 l25 l41 b47 z62=some r1:=h
 rw[L79_6]at h
 try cbv
 refine seq_go ?_
 try cbv
 refine seq_join (T:=Nat×Bool) (fun t=>⟨[(0,.v (.d (.list true 15 l1))),(1,.v (.d (.list true 15 l2))),(2,.v (.d (.bool b47))),(6,.v (.d (.bool false))),(7,.v (.d (.int .i64 z8))),(8,.v (.c (.ptr (.loc 608) 0))),(9,.v (.c (.ptr (.loc 640) 0))),(10,.v (.d (.int .i64 z62))),(128,.v (.d (.bool t.2)))],[(.loc 608,.cells [.d (.int .u8 z12),.d (.str s13),.d (.str s14),.d (.list false 1 l15),.d (.int .u8 z16),.d (.str s17),.d (.list true 3 l18),.d (.int .i64 z19),.d (.str s20),.d (.list false 1 l21),.d (.list true 8 l22),.d (.list true 15 l23),.d (.list true 15 l24),.d (.list true 3 l25),.d (.int .i64 z26)]),(.loc 640,.cells [.d (.int .u8 z28),.d (.str s29),.d (.str s30),.d (.list false 1 l31),.d (.int .u8 z32),.d (.str s33),.d (.list true 3 l34),.d (.int .i64 z35),.d (.str s36),.d (.list false 1 l37),.d (.list true 8 l38),.d (.list true 15 l39),.d (.list true 15 l40),.d (.list true 3 l41),.d (.int .i64 z42)])],3936⟩) (fun t=>t.1≤m6∧L79_7 t.1 l1 l2 z8 l25 l41 b47 z62 t.2=some r1) ?_ ?_
 ·try cbv
  replace h:=lenF_inv M h
  obtain⟨z63,hz,h⟩:=h
  refine⟨z63,hz,?_⟩
  clear hz
  try cbv
  refine splitL (fun e=>?_) (fun e=>?_)
  ·replace h:=ite_t e h
   clear e
   try cbv
   exact join_next (m6,true) [0,1,2,6,7,8,9,10,128] [.loc 608,.loc 640] 3936 ⟨by omega,h⟩ (by cbv)
  replace h:=ite_f (Int.not_lt.2 e) h
  clear e
  try cbv
  exact join_next (m6,false) [0,1,2,6,7,8,9,10,128] [.loc 608,.loc 640] 3936 ⟨by omega,h⟩ (by cbv)
 clear h
 rintro⟨m7,b64⟩ ⟨hm7,h⟩
 replace hm7:m7≤m6:=hm7
 obtain _ | m7:=m7
 ·replace h:L79_7 0 l1 l2 z8 l25 l41 b47 z62 b64=some r1:=h
  rw[L79_7]at h
  cases h
 replace h:L79_7 (m7+1) l1 l2 z8 l25 l41 b47 z62 b64=some r1:=h
 rw[L79_7]at h
 try cbv
 cases b64
 ·replace h:=ite_f Bool.false_ne_true h
  try cbv
  replace h:=letF_inv h
  obtain⟨z93,hz,h⟩:=h
  refine⟨z93,hz,?_⟩
  clear hz
  try cbv
  exact loop_next (m7,(b47,z93)) [0,1,2,6,7] [] 224 ⟨by omega,h⟩ (Nat.lt_succ_of_le (by omega)) (by cbv)
 replace h:=ite_t rfl h
 try cbv
 refine seq_go ?_
 try cbv
 refine seq_join (T:=Nat×Bool) (fun t=>⟨[(0,.v (.d (.list true 15 l1))),(1,.v (.d (.list true 15 l2))),(2,.v (.d (.bool b47))),(6,.v (.d (.bool false))),(7,.v (.d (.int .i64 z8))),(8,.v (.c (.ptr (.loc 608) 0))),(9,.v (.c (.ptr (.loc 640) 0))),(10,.v (.d (.int .i64 z62))),(175,.v (.d (.bool t.2)))],[(.loc 608,.cells [.d (.int .u8 z12),.d (.str s13),.d (.str s14),.d (.list false 1 l15),.d (.int .u8 z16),.d (.str s17),.d (.list true 3 l18),.d (.int .i64 z19),.d (.str s20),.d (.list false 1 l21),.d (.list true 8 l22),.d (.list true 15 l23),.d (.list true 15 l24),.d (.list true 3 l25),.d (.int .i64 z26)]),(.loc 640,.cells [.d (.int .u8 z28),.d (.str s29),.d (.str s30),.d (.list false 1 l31),.d (.int .u8 z32),.d (.str s33),.d (.list true 3 l34),.d (.int .i64 z35),.d (.str s36),.d (.list false 1 l37),.d (.list true 8 l38),.d (.list true 15 l39),.d (.list true 15 l40),.d (.list true 3 l41),.d (.int .i64 z42)])],5376⟩) (fun t=>t.1≤m7∧L79_8 t.1 l1 l2 z8 l25 l41 b47 z62 t.2=some r1) ?_ ?_
 rotate_left
 ·clear h
  rintro⟨m8,b91⟩ ⟨hm8,h⟩
  replace hm8:m8≤m7:=hm8
  obtain _ | m8:=m8
  ·replace h:L79_8 0 l1 l2 z8 l25 l41 b47 z62 b91=some r1:=h
   rw[L79_8]at h
   cases h
  replace h:L79_8 (m8+1) l1 l2 z8 l25 l41 b47 z62 b91=some r1:=h
  rw[L79_8]at h
  try cbv
  cases b91
  ·replace h:=ite_f Bool.false_ne_true h
   try cbv
   replace h:=letF_inv h
   obtain⟨z92,hz,h⟩:=h
   refine⟨z92,hz,?_⟩
   clear hz
   try cbv
   exact loop_next (m8,z92) [0,1,2,6,7,8,9,10] [.loc 608,.loc 640] 3776 ⟨by omega,h⟩ (Nat.lt_succ_of_le (by omega)) (by cbv)
  replace h:=ite_t rfl h
  try cbv
  refine seq_go ?_
  try cbv
  obtain rfl:=Option.some.inj h
  refine fin_go ?_
  try cbv
  exact⟨[],rfl,rfl,trivial,trivial,trivial⟩
 try cbv
 replace h:=getF_inv h
 obtain⟨x65,⟨hx0,hx⟩,h⟩:=h
 refine⟨x65,hx0,hx,?_⟩
 clear hx0 hx
 replace h:=ds_t154_inv h
 obtain⟨s66,s67,l68,rfl,h⟩:=h
 try cbv
 replace h:=getF_inv h
 obtain⟨x69,⟨hx0,hx⟩,h⟩:=h
 refine⟨x69,hx0,hx,?_⟩
 clear hx0 hx
 replace h:=ds_t154_inv h
 obtain⟨s70,s71,l72,rfl,h⟩:=h
 try cbv
 refine splitS (fun e=>?_) (fun e=>?_)
 rotate_left
 ·replace h:=ite_f (bytes_ne.1 e) h
  clear e
  try cbv
  refine drawn ?_ ?_
  ·show _=true
   kernel_rfl
  try cbv
  exact join_next (m7,true) [0,1,2,6,7,8,9,10,175] [.loc 608,.loc 640] 5376 ⟨by omega,h⟩ (by cbv)
 replace h:=ite_t (bytes_eq.1 e) h
 clear e
 try cbv
 replace h:=getF_inv h
 obtain⟨x73,⟨hx0,hx⟩,h⟩:=h
 refine⟨x73,hx0,hx,?_⟩
 clear hx0 hx
 replace h:=ds_t154_inv h
 obtain⟨s74,s75,l76,rfl,h⟩:=h
 try cbv
 replace h:=getF_inv h
 obtain⟨x77,⟨hx0,hx⟩,h⟩:=h
 refine⟨x77,hx0,hx,?_⟩
 clear hx0 hx
 replace h:=ds_t154_inv h
 obtain⟨s78,s79,l80,rfl,h⟩:=h
 try cbv
 refine splitS (fun e=>?_) (fun e=>?_)
 rotate_left
 ·replace h:=ite_f (bytes_ne.1 e) h
  clear e
  try cbv
  refine drawn ?_ ?_
  ·show _=true
   kernel_rfl
  try cbv
  exact join_next (m7,true) [0,1,2,6,7,8,9,10,175] [.loc 608,.loc 640] 5376 ⟨by omega,h⟩ (by cbv)
 replace h:=ite_t (bytes_eq.1 e) h
 clear e
 try cbv
 replace h:=getF_inv h
 obtain⟨x81,⟨hx0,hx⟩,h⟩:=h
 refine⟨x81,hx0,hx,?_⟩
 clear hx0 hx
 replace h:=ds_t154_inv h
 obtain⟨s82,s83,l84,rfl,h⟩:=h
 try cbv
 replace h:=getF_inv h
 obtain⟨x85,⟨hx0,hx⟩,h⟩:=h
 refine⟨x85,hx0,hx,?_⟩
 clear hx0 hx
 replace h:=ds_t154_inv h
 obtain⟨s86,s87,l88,rfl,h⟩:=h
 try cbv
 replace h:=bO1_inv h
 obtain⟨b89,hr,h⟩:=h
 first | refine .inr (.inl ⟨[],?_⟩) | refine .inl ⟨[],?_⟩
 try cbv
 refine call_pure hM hI ((ih _ (by omega)) hr) rfl ?_
 clear hr
 try cbv
 replace h:=letB_inv h
 obtain⟨b90,hz,h⟩:=h
 refine⟨b90,not_eq' hz,?_⟩
 clear hz
 try cbv
 refine drawn ?_ ?_
 ·show _=true
  kernel_rfl
 try cbv
 exact join_next (m7,b90) [0,1,2,6,7,8,9,10,175] [.loc 608,.loc 640] 5376 ⟨by omega,h⟩ (by cbv)
mutual
def L19_2:Nat→(List D)→(List D)→Bool→Int→Option (Bool)
 | 0,_,_,_,_=>none
 | n+1,l1,l2,b7,z8=>
  lenF l1 fun z9=>(if z8<z9 then L19_3 n l1 l2 b7 z8 true else L19_3 n l1 l2 b7 z8 false)
def L19_3:Nat→(List D)→(List D)→Bool→Int→Bool→Option (Bool)
 | 0,_,_,_,_,_=>none
 | n+1,l1,l2,b7,z8,b10=>
  (if b10=true then getF l1 z8 fun x11=>ds_t126 x11 fun z12 s13 l14 z15 s16 l17 l18 z19 z20 s21 s22 s23 l24 l25 z26 z27=>getF l2 z8 fun x28=>ds_t126 x28 fun z29 s30 l31 z32 s33 l34 l35 z36 z37 s38 s39 s40 l41 l42 z43 z44=>(if z12=z29 then (if s13=s30 then (if b7=true then (if z27=z44 then bO1 (F78 n l14 l31) fun b45=>letB (!b45) fun b46=>(if b46=true then L19_4 n l1 l2 z8 true true else bO1 (F21 n z15 s16 l17 z32 s33 l34) fun b47=>letB (!b47) fun b48=>(if b48=true then L19_4 n l1 l2 z8 true true else bO1 (F79 n l18 l35 b7) fun b49=>letB (!b49) fun b50=>(if b50=true then L19_4 n l1 l2 z8 true true else bO1 (F23 n z19 z20 s21 s22 s23 l24 l25 z26 z36 z37 s38 s39 s40 l41 l42 z43 b7) fun b51=>letB (!b51) fun b52=>L19_4 n l1 l2 z8 true b52)))else L19_4 n l1 l2 z8 true true)else bO1 (F78 n l14 l31) fun b53=>letB (!b53) fun b54=>(if b54=true then L19_4 n l1 l2 z8 false true else bO1 (F21 n z15 s16 l17 z32 s33 l34) fun b55=>letB (!b55) fun b56=>(if b56=true then L19_4 n l1 l2 z8 false true else bO1 (F79 n l18 l35 b7) fun b57=>letB (!b57) fun b58=>(if b58=true then L19_4 n l1 l2 z8 false true else bO1 (F23 n z19 z20 s21 s22 s23 l24 l25 z26 z36 z37 s38 s39 s40 l41 l42 z43 b7) fun b59=>letB (!b59) fun b60=>L19_4 n l1 l2 z8 false b60))))else L19_4 n l1 l2 z8 b7 true)else L19_4 n l1 l2 z8 b7 true)else some true)
def L19_4:Nat→(List D)→(List D)→Int→Bool→Bool→Option (Bool)
 | 0,_,_,_,_,_=>none
 | n+1,l1,l2,z8,b61,b62=>
  (if b62=true then some false else letF (IntKind.wrap .i64 (z8+1)) fun z63=>L19_2 n l1 l2 b61 z63)
end
def L19_1:Nat→(List D)→(List D)→Bool→Bool→Option (Bool)
 | 0,_,_,_,_=>none
 | n+1,l1,l2,b3,b6=>
  (if b6=true then some false else L19_2 n l1 l2 b3 (0:Int))
def F19 (n:Nat) (l1:List D) (l2:List D) (b3:Bool):Option (Bool):=
 lenF l1 fun z4=>lenF l2 fun z5=>(if z4=z5 then L19_1 n l1 l2 b3 false else L19_1 n l1 l2 b3 true)
theorem T19 (n:Nat):∀⦃l1:List D⦄ ⦃l2:List D⦄ ⦃b3:Bool⦄ ⦃r1:Bool⦄,F19 n l1 l2 b3=some r1→
    Trip Try.prog inv 19 [.d (.agg [.list true 16 l1]),.d (.agg [.list true 16 l2]),.d (.bool b3)] [] (.v (.d (.bool r1))) [] []:=by
 intro l1 l2 b3 r1 h
 unfold F19 at h
 refine Trip.of tab_ok tab_one fol Try.func19 rfl (by kernel_rfl) rfl rfl rfl (fun M hM hI=>?_)
 try cbv
 refine seq_go ?_
 try cbv
 refine seq_go ?_
 try cbv
 refine seq_join (T:=Nat×Bool) (fun t=>⟨[(2,.v (.d (.bool b3))),(3,.v (.c (.ptr (.loc 0) 0))),(4,.v (.c (.ptr (.loc 32) 0))),(6,.v (.d (.bool false))),(16,.v (.d (.bool t.2)))],[(.loc 0,.cells [.d (.list true 16 l1)]),(.loc 32,.cells [.d (.list true 16 l2)])],320⟩) (fun t=>t.1≤n∧L19_1 t.1 l1 l2 b3 t.2=some r1) ?_ ?_
 ·try cbv
  replace h:=lenF_inv M h
  obtain⟨z4,hz,h⟩:=h
  refine⟨z4,hz,?_⟩
  clear hz
  try cbv
  replace h:=lenF_inv M h
  obtain⟨z5,hz,h⟩:=h
  refine⟨z5,hz,?_⟩
  clear hz
  try cbv
  refine splitI (fun e=>?_) (fun e=>?_)
  ·replace h:=ite_t e h
   clear e
   try cbv
   exact join_next (n,false) [2,3,4,6,16] [.loc 0,.loc 32] 320 ⟨by omega,h⟩ (by cbv)
  replace h:=ite_f e h
  clear e
  try cbv
  exact join_next (n,true) [2,3,4,6,16] [.loc 0,.loc 32] 320 ⟨by omega,h⟩ (by cbv)
 clear h
 rintro⟨m1,b6⟩ ⟨hm1,h⟩
 replace hm1:m1≤n:=hm1
 obtain _ | m1:=m1
 ·replace h:L19_1 0 l1 l2 b3 b6=some r1:=h
  rw[L19_1]at h
  cases h
 replace h:L19_1 (m1+1) l1 l2 b3 b6=some r1:=h
 rw[L19_1]at h
 try cbv
 cases b6
 rotate_left
 ·replace h:=ite_t rfl h
  try cbv
  refine seq_go ?_
  try cbv
  obtain rfl:=Option.some.inj h
  refine fin_go ?_
  try cbv
  exact⟨[],rfl,rfl,trivial,trivial,trivial⟩
 replace h:=ite_f Bool.false_ne_true h
 try cbv
 refine seq_go ?_
 try cbv
 refine seq_go ?_
 try cbv
 refine loop_inv (T:=Nat×Bool×Int) [2,3,4,6,7] [.loc 0,.loc 32] 352 (fun t=>⟨[(2,.v (.d (.bool t.2.1))),(3,.v (.c (.ptr (.loc 0) 0))),(4,.v (.c (.ptr (.loc 32) 0))),(6,.v (.d (.bool false))),(7,.v (.d (.int .i64 t.2.2)))],[(.loc 0,.cells [.d (.list true 16 l1)]),(.loc 32,.cells [.d (.list true 16 l2)])],352⟩)
   (fun t=>t.1≤m1∧L19_2 t.1 l1 l2 t.2.1 t.2.2=some r1) (fun t=>t.1) (m1,(b3,(0:Int))) ⟨Nat.le_refl _,h⟩ (by cbv) ?_
 clear h
 rintro⟨m2,b7,z8⟩ ⟨hm2,h⟩
 replace hm2:m2≤m1:=hm2
 obtain _ | m2:=m2
 ·replace h:L19_2 0 l1 l2 b7 z8=some r1:=h
  rw[L19_2]at h
  cases h
 replace h:L19_2 (m2+1) l1 l2 b7 z8=some r1:=h
 rw[L19_2]at h
 try cbv
 refine seq_go ?_
 try cbv
 refine seq_join (T:=Nat×Bool) (fun t=>⟨[(2,.v (.d (.bool b7))),(3,.v (.c (.ptr (.loc 0) 0))),(4,.v (.c (.ptr (.loc 32) 0))),(6,.v (.d (.bool false))),(7,.v (.d (.int .i64 z8))),(21,.v (.d (.bool t.2)))],[(.loc 0,.cells [.d (.list true 16 l1)]),(.loc 32,.cells [.d (.list true 16 l2)])],512⟩) (fun t=>t.1≤m2∧L19_3 t.1 l1 l2 b7 z8 t.2=some r1) ?_ ?_
 ·try cbv
  replace h:=lenF_inv M h
  obtain⟨z9,hz,h⟩:=h
  refine⟨z9,hz,?_⟩
  clear hz
  try cbv
  refine splitL (fun e=>?_) (fun e=>?_)
  ·replace h:=ite_t e h
   clear e
   try cbv
   exact join_next (m2,true) [2,3,4,6,7,21] [.loc 0,.loc 32] 512 ⟨by omega,h⟩ (by cbv)
  replace h:=ite_f (Int.not_lt.2 e) h
  clear e
  try cbv
  exact join_next (m2,false) [2,3,4,6,7,21] [.loc 0,.loc 32] 512 ⟨by omega,h⟩ (by cbv)
 clear h
 rintro⟨m3,b10⟩ ⟨hm3,h⟩
 replace hm3:m3≤m2:=hm3
 obtain _ | m3:=m3
 ·replace h:L19_3 0 l1 l2 b7 z8 b10=some r1:=h
  rw[L19_3]at h
  cases h
 replace h:L19_3 (m3+1) l1 l2 b7 z8 b10=some r1:=h
 rw[L19_3]at h
 try cbv
 cases b10
 ·replace h:=ite_f Bool.false_ne_true h
  try cbv
  refine seq_go ?_
  try cbv
  obtain rfl:=Option.some.inj h
  refine fin_go ?_
  try cbv
  exact⟨[],rfl,rfl,trivial,trivial,trivial⟩
 replace h:=ite_t rfl h
 try cbv
 refine seq_go ?_
 try cbv
 refine seq_go ?_
 try cbv
 replace h:=getF_inv h
 obtain⟨x11,⟨hx0,hx⟩,h⟩:=h
 refine⟨x11,hx0,hx,?_⟩
 clear hx0 hx
 replace h:=ds_t126_inv h
 obtain⟨z12,s13,l14,z15,s16,l17,l18,z19,z20,s21,s22,s23,l24,l25,z26,z27,rfl,h⟩:=h
 try cbv
 replace h:=getF_inv h
 obtain⟨x28,⟨hx0,hx⟩,h⟩:=h
 refine⟨x28,hx0,hx,?_⟩
 clear hx0 hx
 replace h:=ds_t126_inv h
 obtain⟨z29,s30,l31,z32,s33,l34,l35,z36,z37,s38,s39,s40,l41,l42,z43,z44,rfl,h⟩:=h
 try cbv
 refine drawn ?_ ?_
 ·show _=true
  kernel_rfl
 try cbv
 refine seq_join (T:=Nat×Bool×Bool) (fun t=>⟨[(2,.v (.d (.bool t.2.1))),(3,.v (.c (.ptr (.loc 0) 0))),(4,.v (.c (.ptr (.loc 32) 0))),(6,.v (.d (.bool false))),(7,.v (.d (.int .i64 z8))),(89,.v (.d (.bool t.2.2)))],[(.loc 0,.cells [.d (.list true 16 l1)]),(.loc 32,.cells [.d (.list true 16 l2)])],2752⟩) (fun t=>t.1≤m3∧L19_4 t.1 l1 l2 z8 t.2.1 t.2.2=some r1) ?_ ?_
 rotate_left
 ·clear h
  rintro⟨m4,b61,b62⟩ ⟨hm4,h⟩
  replace hm4:m4≤m3:=hm4
  obtain _ | m4:=m4
  ·replace h:L19_4 0 l1 l2 z8 b61 b62=some r1:=h
   rw[L19_4]at h
   cases h
  replace h:L19_4 (m4+1) l1 l2 z8 b61 b62=some r1:=h
  rw[L19_4]at h
  try cbv
  cases b62
  ·replace h:=ite_f Bool.false_ne_true h
   try cbv
   replace h:=letF_inv h
   obtain⟨z63,hz,h⟩:=h
   refine⟨z63,hz,?_⟩
   clear hz
   try cbv
   exact loop_next (m4,(b61,z63)) [2,3,4,6,7] [.loc 0,.loc 32] 352 ⟨by omega,h⟩ (Nat.lt_succ_of_le (by omega)) (by cbv)
  replace h:=ite_t rfl h
  try cbv
  refine seq_go ?_
  try cbv
  obtain rfl:=Option.some.inj h
  refine fin_go ?_
  try cbv
  exact⟨[],rfl,rfl,trivial,trivial,trivial⟩
 try cbv
 refine splitI (fun e=>?_) (fun e=>?_)
 rotate_left
 ·replace h:=ite_f e h
  clear e
  try cbv
  exact join_next (m3,(b7,true)) [2,3,4,6,7,89] [.loc 0,.loc 32] 2752 ⟨by omega,h⟩ (by cbv)
 replace h:=ite_t e h
 clear e
 try cbv
 refine splitS (fun e=>?_) (fun e=>?_)
 rotate_left
 ·replace h:=ite_f (bytes_ne.1 e) h
  clear e
  try cbv
  exact join_next (m3,(b7,true)) [2,3,4,6,7,89] [.loc 0,.loc 32] 2752 ⟨by omega,h⟩ (by cbv)
 replace h:=ite_t (bytes_eq.1 e) h
 clear e
 try cbv
 cases b7
 ·replace h:=ite_f Bool.false_ne_true h
  try cbv
  replace h:=bO1_inv h
  obtain⟨b53,hr,h⟩:=h
  refine call_go rfl rfl ?_
  try cbv
  refine call_pure hM hI (T78 _ hr) rfl ?_
  clear hr
  try cbv
  replace h:=letB_inv h
  obtain⟨b54,hz,h⟩:=h
  refine⟨b54,not_eq' hz,?_⟩
  clear hz
  try cbv
  cases b54
  rotate_left
  ·replace h:=ite_t rfl h
   try cbv
   exact join_next (m3,(false,true)) [2,3,4,6,7,89] [.loc 0,.loc 32] 2752 ⟨by omega,h⟩ (by cbv)
  replace h:=ite_f Bool.false_ne_true h
  try cbv
  replace h:=bO1_inv h
  obtain⟨b55,hr,h⟩:=h
  refine call_go rfl rfl ?_
  try cbv
  refine call_pure hM hI (T21 _ hr) rfl ?_
  clear hr
  try cbv
  replace h:=letB_inv h
  obtain⟨b56,hz,h⟩:=h
  refine⟨b56,not_eq' hz,?_⟩
  clear hz
  try cbv
  cases b56
  rotate_left
  ·replace h:=ite_t rfl h
   try cbv
   exact join_next (m3,(false,true)) [2,3,4,6,7,89] [.loc 0,.loc 32] 2752 ⟨by omega,h⟩ (by cbv)
  replace h:=ite_f Bool.false_ne_true h
  try cbv
  replace h:=bO1_inv h
  obtain⟨b57,hr,h⟩:=h
  refine call_go rfl rfl ?_
  try cbv
  refine call_pure hM hI (T79 _ hr) rfl ?_
  clear hr
  try cbv
  replace h:=letB_inv h
  obtain⟨b58,hz,h⟩:=h
  refine⟨b58,not_eq' hz,?_⟩
  clear hz
  try cbv
  cases b58
  ·replace h:=ite_f Bool.false_ne_true h
   try cbv
   replace h:=bO1_inv h
   obtain⟨b59,hr,h⟩:=h
   refine call_go rfl rfl ?_
   try cbv
   refine call_pure hM hI (T23 _ hr) rfl ?_
   clear hr
   try cbv
   replace h:=letB_inv h
   obtain⟨b60,hz,h⟩:=h
   refine⟨b60,not_eq' hz,?_⟩
   clear hz
   try cbv
   exact join_next (m3,(false,b60)) [2,3,4,6,7,89] [.loc 0,.loc 32] 2752 ⟨by omega,h⟩ (by cbv)
  replace h:=ite_t rfl h
  try cbv
  exact join_next (m3,(false,true)) [2,3,4,6,7,89] [.loc 0,.loc 32] 2752 ⟨by omega,h⟩ (by cbv)
 replace h:=ite_t rfl h
 try cbv
 refine splitI (fun e=>?_) (fun e=>?_)
 rotate_left
 ·replace h:=ite_f e h
  clear e
  try cbv
  exact join_next (m3,(true,true)) [2,3,4,6,7,89] [.loc 0,.loc 32] 2752 ⟨by omega,h⟩ (by cbv)
 replace h:=ite_t e h
 clear e
 try cbv
 replace h:=bO1_inv h
 obtain⟨b45,hr,h⟩:=h
 refine call_go rfl rfl ?_
 try cbv
 refine call_pure hM hI (T78 _ hr) rfl ?_
 clear hr
 try cbv
 replace h:=letB_inv h
 obtain⟨b46,hz,h⟩:=h
 refine⟨b46,not_eq' hz,?_⟩
 clear hz
 try cbv
 cases b46
 rotate_left
 ·replace h:=ite_t rfl h
  try cbv
  exact join_next (m3,(true,true)) [2,3,4,6,7,89] [.loc 0,.loc 32] 2752 ⟨by omega,h⟩ (by cbv)
 replace h:=ite_f Bool.false_ne_true h
 try cbv
 replace h:=bO1_inv h
 obtain⟨b47,hr,h⟩:=h
 refine call_go rfl rfl ?_
 try cbv
 refine call_pure hM hI (T21 _ hr) rfl ?_
 clear hr
 try cbv
 replace h:=letB_inv h
 obtain⟨b48,hz,h⟩:=h
 refine⟨b48,not_eq' hz,?_⟩
 clear hz
 try cbv
 cases b48
 rotate_left
 ·replace h:=ite_t rfl h
  try cbv
  exact join_next (m3,(true,true)) [2,3,4,6,7,89] [.loc 0,.loc 32] 2752 ⟨by omega,h⟩ (by cbv)
 replace h:=ite_f Bool.false_ne_true h
 try cbv
 replace h:=bO1_inv h
 obtain⟨b49,hr,h⟩:=h
 refine call_go rfl rfl ?_
 try cbv
 refine call_pure hM hI (T79 _ hr) rfl ?_
 clear hr
 try cbv
 replace h:=letB_inv h
 obtain⟨b50,hz,h⟩:=h
 refine⟨b50,not_eq' hz,?_⟩
 clear hz
 try cbv
 cases b50
 ·replace h:=ite_f Bool.false_ne_true h
  try cbv
  replace h:=bO1_inv h
  obtain⟨b51,hr,h⟩:=h
  refine call_go rfl rfl ?_
  try cbv
  refine call_pure hM hI (T23 _ hr) rfl ?_
  clear hr
  try cbv
  replace h:=letB_inv h
  obtain⟨b52,hz,h⟩:=h
  refine⟨b52,not_eq' hz,?_⟩
  clear hz
  try cbv
  exact join_next (m3,(true,b52)) [2,3,4,6,7,89] [.loc 0,.loc 32] 2752 ⟨by omega,h⟩ (by cbv)
 replace h:=ite_t rfl h
 try cbv
 exact join_next (m3,(true,true)) [2,3,4,6,7,89] [.loc 0,.loc 32] 2752 ⟨by omega,h⟩ (by cbv)
end Go.Proofs.Ytiiojajgajnhpaa
end
set_option linter.unusedVariables false
noncomputable section
namespace Go.Proofs.Ytiiojajgajnhpaa
open Go Go.AM
theorem ilt {i n:Nat}(h:i<n):(i:Int)<(n:Int):=by omega
theorem names_refl {l:List D}(h:ListS tab 9 l):Ev (fun n=>F124 n l l) true:=by
 have loop:∀i:Nat,i≤l.length→Ev (fun n=>L124_2 n l l (i:Int)) true:=by
  refine down l.length ?_ ?_
  ·refine .succ ?_
   simp only[L124_2,lenF,Int.lt_irrefl,if_false]
   exact .succ (by simp only[L124_3,Bool.false_eq_true,if_false];exact .ret)
  ·intro i hi ih
   obtain⟨x,hx,hm,hr⟩:=h.get hi
   obtain⟨a,rfl,_⟩:=rs9 hr
   refine .succ ?_
   simp only[L124_2,lenF,if_pos (ilt hi)]
   refine .succ ?_
   simp only[L124_3,if_true,getF_nat hx,ds_str]
   refine .succ ?_
   simp only[L124_4,Bool.false_eq_true,if_false,letF,wrap_succ hi h.1]
   exact ih
 unfold F124
 simp only[lenF,if_true]
 exact .succ (by simp only[L124_1,Bool.false_eq_true,if_false];exact loop 0 (Nat.zero_le _))
theorem place_refl {l:List D}(h:ListS tab 9 l) (s:ByteArray):Ev (fun n=>F83 n s l s l) true:=by
 unfold F83
 simp only[if_true]
 exact Ev.bO1 (names_refl h) .ret
theorem ty_refl (l:List D):ListS tab 27 l→∀(z:Int) (s:ByteArray),Ev (fun n=>F21 n z s l z s l) true:=by
 refine list_ind (P:=fun l=>ListS tab 27 l→∀(z:Int) (s:ByteArray),Ev (fun n=>F21 n z s l z s l) true) (fun l ih h=>?_) l
 have loop:∀i:Nat,i≤l.length→Ev (fun n=>L21_2 n l l (i:Int)) true:=by
  refine down l.length ?_ ?_
  ·refine .succ ?_
   simp only[L21_2,lenF,Int.lt_irrefl,if_false]
   exact .succ (by simp only[L21_3,Bool.false_eq_true,if_false];exact .ret)
  ·intro i hi ihl
   obtain⟨x,hx,hm,hr⟩:=h.get hi
   obtain⟨a,s,m,rfl,w0,w1,w2⟩:=rs27 hr
   refine .succ ?_
   simp only[L21_2,lenF,if_pos (ilt hi)]
   refine .succ ?_
   simp only[L21_3,if_true,getF_nat hx,ds_t27]
   refine Ev.bO1 (ih m (size_row (ag:=true) (sz:=3) hm (by simp)) w2 a s) ?_
   simp only[letB,Bool.not_true,Bool.false_eq_true,if_false,letF,wrap_succ hi h.1]
   exact ihl
 intro z s
 refine .succ ?_
 simp only[F21,if_true,lenF]
 exact .succ (by simp only[L21_1,Bool.false_eq_true,if_false];exact loop 0 (Nat.zero_le _))
theorem ex1_refl {l6 l7:List D}(h6:ListS tab 9 l6) (h7:Ev (fun n=>F84 n l7 l7 true) true) (z1 z2:Int) (s3 s4 s5:ByteArray) (z8:Int):Ev (fun n=>F23 n z1 z2 s3 s4 s5 l6 l7 z8 z1 z2 s3 s4 s5 l6 l7 z8 true) true:=by
 refine .succ ?_
 simp only[F23,if_true,letB,Bool.not_true,Bool.false_eq_true,if_false]
 refine Ev.bO1 (place_refl h6 s5) ?_
 simp only[if_true]
 exact Ev.bO1 h7 .ret
theorem ex_refl (l:List D):ListS tab 33 l→Ev (fun n=>F84 n l l true) true:=by
 refine list_ind (P:=fun l=>ListS tab 33 l→Ev (fun n=>F84 n l l true) true) (fun l ih h=>?_) l
 have loop:∀i:Nat,i≤l.length→Ev (fun n=>L84_2 n l l true (i:Int)) true:=by
  refine down l.length ?_ ?_
  ·refine .succ ?_
   simp only[L84_2,lenF,Int.lt_irrefl,if_false]
   exact .succ (by simp only[L84_3,Bool.false_eq_true,if_false];exact .ret)
  ·intro i hi ihl
   obtain⟨x,hx,hm,hr⟩:=h.get hi
   obtain⟨a0,a1,a2,a3,a4,a5,a6,a7,rfl,w0,w1,w2,w3,w4,w5,w6,w7⟩:=rs33 hr
   refine .succ ?_
   simp only[L84_2,lenF,if_pos (ilt hi)]
   refine .succ ?_
   simp only[L84_3,if_true,getF_nat hx,ds_t33]
   refine Ev.bO1 (ex1_refl w5 (ih a6 (size_row (ag:=true) (sz:=8) hm (by simp)) w6) a0 a1 a2 a3 a4 a7) ?_
   simp only[letB,Bool.not_true,Bool.false_eq_true,if_false,letF,wrap_succ hi h.1]
   exact ihl
 refine .succ ?_
 simp only[F84,lenF,if_true]
 exact .succ (by simp only[L84_1,Bool.false_eq_true,if_false];exact loop 0 (Nat.zero_le _))
theorem st_refl (l:List D):ListS tab 152 l→Ev (fun n=>F79 n l l true) true:=by
 refine list_ind (P:=fun l=>ListS tab 152 l→Ev (fun n=>F79 n l l true) true) (fun l ih h=>?_) l
 have loop:∀i:Nat,i≤l.length→Ev (fun n=>L79_2 n l l true (i:Int)) true:=by
  refine down l.length ?_ ?_
  ·refine .succ ?_
   simp only[L79_2,lenF,Int.lt_irrefl,if_false]
   exact .succ (by simp only[L79_3,Bool.false_eq_true,if_false];exact .ret)
  ·intro i hi ihl
   obtain⟨x,hx,hm,hr⟩:=h.get hi
   obtain⟨a0,a1,a2,a3,a4,a5,a6,a7,a8,a9,a10,a11,a12,a13,a14,rfl,w0,w1,w2,w3,w4,w5,w6,w7,w8,w9,w10,w11,w12,w13,w14⟩:=rs152 hr
   have arms:∀j:Nat,j≤a13.length→Ev (fun n=>L79_6 n l l (i:Int) a13 a13 true (j:Int)) true:=by
    refine down a13.length ?_ ?_
    ·refine .succ ?_
     simp only[L79_6,lenF,Int.lt_irrefl,if_false]
     refine .succ ?_
     simp only[L79_7,Bool.false_eq_true,if_false,letF,wrap_succ hi h.1]
     exact ihl
    ·intro j hj iha
     obtain⟨y,hy,hm2,hr2⟩:=w13.get hj
     obtain⟨t1,t2,m,rfl,v0,v1,v2⟩:=rs154 hr2
     refine .succ ?_
     simp only[L79_6,lenF,if_pos (ilt hj)]
     refine .succ ?_
     simp only[L79_7,if_true,getF_nat hy,ds_t154]
     refine Ev.bO1 (ih m (Nat.lt_trans (size_row (ag:=true) (sz:=15) hm2 (by simp)) (size_row (ag:=true) (sz:=3) hm (by simp))) v2) ?_
     simp only[letB,Bool.not_true]
     refine .succ ?_
     simp only[L79_8,Bool.false_eq_true,if_false,letF,wrap_succ hj w13.1]
     exact iha
   refine .succ ?_
   simp only[L79_2,lenF,if_pos (ilt hi)]
   refine .succ ?_
   simp only[L79_3,if_true,getF_nat hx,ds_t152,lenF]
   refine .succ ?_
   simp only[L79_4,Bool.false_eq_true,if_false]
   refine Ev.bO1 (names_refl w3) ?_
   simp only[letB,Bool.not_true,Bool.false_eq_true,if_false]
   refine Ev.bO1 (ty_refl a6 w6 a4 a5) ?_
   simp only[letB,Bool.not_true,Bool.false_eq_true,if_false]
   refine Ev.bO1 (place_refl w9 a8) ?_
   simp only[letB,Bool.not_true,Bool.false_eq_true,if_false]
   refine Ev.bO1 (ex_refl a10 w10) ?_
   simp only[letB,Bool.not_true,Bool.false_eq_true,if_false]
   refine Ev.bO1 (ih a11 (size_row (ag:=true) (sz:=15) hm (by simp)) w11) ?_
   simp only[letB,Bool.not_true,Bool.false_eq_true,if_false]
   refine Ev.bO1 (ih a12 (size_row (ag:=true) (sz:=15) hm (by simp)) w12) ?_
   simp only[letB,Bool.not_true]
   refine .succ ?_
   simp only[L79_5,Bool.false_eq_true,if_false]
   exact arms 0 (Nat.zero_le _)
 refine .succ ?_
 simp only[F79,lenF,if_true]
 exact .succ (by simp only[L79_1,Bool.false_eq_true,if_false];exact loop 0 (Nat.zero_le _))
theorem fld_refl {l:List D}(h:ListS tab 136 l):Ev (fun n=>F78 n l l) true:=by
 have loop:∀i:Nat,i≤l.length→Ev (fun n=>L78_2 n l l (i:Int)) true:=by
  refine down l.length ?_ ?_
  ·refine .succ ?_
   simp only[L78_2,lenF,Int.lt_irrefl,if_false]
   exact .succ (by simp only[L78_3,Bool.false_eq_true,if_false];exact .ret)
  ·intro i hi ihl
   obtain⟨x,hx,hm,hr⟩:=h.get hi
   obtain⟨a0,a1,a2,a3,rfl,w0,w1,w2,w3⟩:=rs136 hr
   refine .succ ?_
   simp only[L78_2,lenF,if_pos (ilt hi)]
   refine .succ ?_
   simp only[L78_3,if_true,getF_nat hx,ds_t136]
   refine Ev.bO1 (ty_refl a3 w3 a1 a2) ?_
   simp only[letB,Bool.not_true]
   refine .succ ?_
   simp only[L78_4,Bool.false_eq_true,if_false,letF,wrap_succ hi h.1]
   exact ihl
 unfold F78
 simp only[lenF,if_true]
 exact .succ (by simp only[L78_1,Bool.false_eq_true,if_false];exact loop 0 (Nat.zero_le _))
theorem prog_refl {l:List D}(h:ListS tab 126 l):Ev (fun n=>F19 n l l true) true:=by
 have loop:∀i:Nat,i≤l.length→Ev (fun n=>L19_2 n l l true (i:Int)) true:=by
  refine down l.length ?_ ?_
  ·refine .succ ?_
   simp only[L19_2,lenF,Int.lt_irrefl,if_false]
   exact .succ (by simp only[L19_3,Bool.false_eq_true,if_false];exact .ret)
  ·intro i hi ihl
   obtain⟨x,hx,hm,hr⟩:=h.get hi
   obtain⟨a0,a1,a2,a3,a4,a5,a6,a7,a8,a9,a10,a11,a12,a13,a14,a15,rfl,w0,w1,w2,w3,w4,w5,w6,w7,w8,w9,w10,w11,w12,w13,w14,w15⟩:=rs126 hr
   refine .succ ?_
   simp only[L19_2,lenF,if_pos (ilt hi)]
   refine .succ ?_
   simp only[L19_3,if_true,getF_nat hx,ds_t126]
   refine Ev.bO1 (fld_refl w2) ?_
   simp only[letB,Bool.not_true,Bool.false_eq_true,if_false]
   refine Ev.bO1 (ty_refl a5 w5 a3 a4) ?_
   simp only[letB,Bool.not_true,Bool.false_eq_true,if_false]
   refine Ev.bO1 (st_refl a6 w6) ?_
   simp only[letB,Bool.not_true,Bool.false_eq_true,if_false]
   refine Ev.bO1 (ex1_refl w12 (ex_refl a13 w13) a7 a8 a9 a10 a11 a14) ?_
   simp only[letB,Bool.not_true]
   refine .succ ?_
   simp only[L19_4,Bool.false_eq_true,if_false,letF,wrap_succ hi h.1]
   exact ihl
 unfold F19
 simp only[lenF,if_true]
 exact .succ (by simp only[L19_1,Bool.false_eq_true,if_false];exact loop 0 (Nat.zero_le _))
end Go.Proofs.Ytiiojajgajnhpaa
end
set_option linter.unusedVariables false
noncomputable section
namespace Go.Proofs.Ytiiojajgajnhpaa
open Go Go.AM
def L68_1:Nat→ByteArray→Int→Bool→Option (Int)
 | 0,_,_,_=>none
 | n+1,s1,z2,b5=>
  (if b5=true then some (-1:Int)else letF (IntKind.wrap .i64 (z2 - 5)) fun z6=>szF s1 fun z7=>letF (IntKind.wrap .i64 (z6 - z7)) fun z8=>some z8)
def F68 (n:Nat) (s1:ByteArray) (z2:Int):Option (Int):=
 (if z2<(5:Int)then L68_1 n s1 z2 true else szF s1 fun z3=>letF (IntKind.wrap .i64 (z2 - 5)) fun z4=>(if z4<z3 then L68_1 n s1 z2 true else L68_1 n s1 z2 false))
theorem T68 (n:Nat):∀⦃s1:ByteArray⦄ ⦃z2:Int⦄ ⦃r1:Int⦄,F68 n s1 z2=some r1→
    Trip Try.prog inv 68 [.c (.ptr (.ext 0) 0),.d (.str s1)] [.cells [.d (.int .i64 z2)]] (.t []) [.cells [.d (.int .i64 r1)]] []:=by
 intro s1 z2 r1 h
 unfold F68 at h
 refine Trip.of tab_ok tab_one fol Try.func68 rfl (by kernel_rfl) rfl rfl rfl (fun M hM hI=>?_)
 try cbv
 refine seq_go ?_
 try cbv
 refine seq_join (T:=Nat×Bool) (fun t=>⟨[(0,.v (.c (.ptr (.ext 0) 0))),(1,.v (.d (.str s1))),(18,.v (.d (.bool t.2)))],[(.ext 0,.cells [.d (.int .i64 z2)])],480⟩) (fun t=>t.1≤n∧L68_1 t.1 s1 z2 t.2=some r1) ?_ ?_
 ·try cbv
  refine splitL (fun e=>?_) (fun e=>?_)
  ·replace h:=ite_t e h
   clear e
   try cbv
   exact join_next (n,true) [0,1,18] [.ext 0] 480 ⟨by omega,h⟩ (by cbv)
  replace h:=ite_f (Int.not_lt.2 e) h
  clear e
  try cbv
  replace h:=szF_inv M h
  obtain⟨z3,hz,h⟩:=h
  refine⟨z3,hz,?_⟩
  clear hz
  try cbv
  replace h:=letF_inv h
  obtain⟨z4,hz,h⟩:=h
  refine⟨z4,hz,?_⟩
  clear hz
  try cbv
  refine splitL (fun e=>?_) (fun e=>?_)
  ·replace h:=ite_t e h
   clear e
   try cbv
   exact join_next (n,true) [0,1,18] [.ext 0] 480 ⟨by omega,h⟩ (by cbv)
  replace h:=ite_f (Int.not_lt.2 e) h
  clear e
  try cbv
  exact join_next (n,false) [0,1,18] [.ext 0] 480 ⟨by omega,h⟩ (by cbv)
 clear h
 rintro⟨m1,b5⟩ ⟨hm1,h⟩
 replace hm1:m1≤n:=hm1
 obtain _ | m1:=m1
 ·replace h:L68_1 0 s1 z2 b5=some r1:=h
  rw[L68_1]at h
  cases h
 replace h:L68_1 (m1+1) s1 z2 b5=some r1:=h
 rw[L68_1]at h
 try cbv
 cases b5
 rotate_left
 ·replace h:=ite_t rfl h
  try cbv
  refine seq_go ?_
  try cbv
  obtain rfl:=Option.some.inj h
  refine fin_go ?_
  try cbv
  exact⟨[],rfl,rfl,⟨rfl,trivial⟩,trivial,trivial⟩
 replace h:=ite_f Bool.false_ne_true h
 try cbv
 replace h:=letF_inv h
 obtain⟨z6,hz,h⟩:=h
 refine⟨z6,hz,?_⟩
 clear hz
 try cbv
 replace h:=szF_inv M h
 obtain⟨z7,hz,h⟩:=h
 refine⟨z7,hz,?_⟩
 clear hz
 try cbv
 replace h:=letF_inv h
 obtain⟨z8,hz,h⟩:=h
 refine⟨z8,hz,?_⟩
 clear hz
 try cbv
 obtain rfl:=Option.some.inj h
 refine fin_go ?_
 try cbv
 exact⟨[],rfl,rfl,⟨rfl,trivial⟩,trivial,trivial⟩
mutual
def L70_1:Nat→(List D)→Int→Int→Option (Int)
 | 0,_,_,_=>none
 | n+1,l3,z6,z7=>
  lenF l3 fun z8=>(if z6<z8 then (if (0:Int)≤z7 then L70_2 n l3 z6 z7 true else L70_2 n l3 z6 z7 false)else L70_2 n l3 z6 z7 false)
def L70_2:Nat→(List D)→Int→Int→Bool→Option (Int)
 | 0,_,_,_,_=>none
 | n+1,l3,z6,z7,b9=>
  (if b9=true then getF l3 z6 fun x10=>ds_t27 x10 fun z11 s12 l13=>bO1 (F70 n z11 s12 l13 z7) fun z14=>letF (IntKind.wrap .i64 (z6+1)) fun z15=>L70_1 n l3 z15 z14 else some z7)
def F70:Nat→Int→ByteArray→(List D)→Int→Option (Int)
 | 0,_,_,_,_=>none
 | n+1,z1,s2,l3,z4=>
  bO1 (F68 n s2 z4) fun z5=>L70_1 n l3 (0:Int) z5
end
theorem T70 (n:Nat):∀⦃z1:Int⦄ ⦃s2:ByteArray⦄ ⦃l3:List D⦄ ⦃z4:Int⦄ ⦃r1:Int⦄,F70 n z1 s2 l3 z4=some r1→
    Trip Try.prog inv 70 [.c (.ptr (.ext 0) 0),.d (.agg [.int .u8 z1,.str s2,.list true 3 l3])] [.cells [.d (.int .i64 z4)]] (.t []) [.cells [.d (.int .i64 r1)]] []:=by
 induction n using Nat.strongRecOn with | _ n ih=>
 obtain _ | n:=n
 ·intro z1 s2 l3 z4 r1 h
  cases (show (none:Option _)=some _ from h)
 intro z1 s2 l3 z4 r1 h
 rw[F70]at h
 refine Trip.of tab_ok tab_one fol Try.func70 rfl (by kernel_rfl) rfl rfl rfl (fun M hM hI=>?_)
 try cbv
 refine seq_go ?_
 try cbv
 refine seq_go ?_
 try cbv
 replace h:=bO1_inv h
 obtain⟨z5,hr,h⟩:=h
 refine call_go rfl rfl ?_
 try cbv
 refine call_with hM hI [.ext 0] (T68 _ hr) rfl (by simp) ⟨rfl,trivial⟩ ⟨trivial,trivial⟩ (by simp) ?_
 clear hr
 try cbv
 refine seq_go ?_
 try cbv
 refine loop_inv (T:=Nat×Int×Int) [0,3,4] [.ext 0,.loc 0] 192 (fun t=>⟨[(0,.v (.c (.ptr (.ext 0) 0))),(3,.v (.c (.ptr (.loc 0) 0))),(4,.v (.d (.int .i64 t.2.1)))],[(.ext 0,.cells [.d (.int .i64 t.2.2)]),(.loc 0,.cells [.d (.int .u8 z1),.d (.str s2),.d (.list true 3 l3)])],192⟩)
   (fun t=>t.1≤n∧L70_1 t.1 l3 t.2.1 t.2.2=some r1) (fun t=>t.1) (n,((0:Int),z5)) ⟨Nat.le_refl _,h⟩ (by cbv) ?_
 clear h
 rintro⟨m1,z6,z7⟩ ⟨hm1,h⟩
 replace hm1:m1≤n:=hm1
 obtain _ | m1:=m1
 ·replace h:L70_1 0 l3 z6 z7=some r1:=h
  rw[L70_1]at h
  cases h
 replace h:L70_1 (m1+1) l3 z6 z7=some r1:=h
 rw[L70_1]at h
 try cbv
 refine seq_go ?_
 try cbv
 refine seq_join (T:=Nat×Bool) (fun t=>⟨[(0,.v (.c (.ptr (.ext 0) 0))),(3,.v (.c (.ptr (.loc 0) 0))),(4,.v (.d (.int .i64 z6))),(20,.v (.d (.bool t.2)))],[(.ext 0,.cells [.d (.int .i64 z7)]),(.loc 0,.cells [.d (.int .u8 z1),.d (.str s2),.d (.list true 3 l3)])],576⟩) (fun t=>t.1≤m1∧L70_2 t.1 l3 z6 z7 t.2=some r1) ?_ ?_
 ·try cbv
  replace h:=lenF_inv M h
  obtain⟨z8,hz,h⟩:=h
  refine⟨z8,hz,?_⟩
  clear hz
  try cbv
  refine splitL (fun e=>?_) (fun e=>?_)
  ·replace h:=ite_t e h
   clear e
   try cbv
   refine splitLe (fun e=>?_) (fun e=>?_)
   ·replace h:=ite_t e h
    clear e
    try cbv
    exact join_next (m1,true) [0,3,4,20] [.ext 0,.loc 0] 576 ⟨by omega,h⟩ (by cbv)
   replace h:=ite_f (Int.not_le.2 e) h
   clear e
   try cbv
   exact join_next (m1,false) [0,3,4,20] [.ext 0,.loc 0] 576 ⟨by omega,h⟩ (by cbv)
  replace h:=ite_f (Int.not_lt.2 e) h
  clear e
  try cbv
  exact join_next (m1,false) [0,3,4,20] [.ext 0,.loc 0] 576 ⟨by omega,h⟩ (by cbv)
 clear h
 rintro⟨m2,b9⟩ ⟨hm2,h⟩
 replace hm2:m2≤m1:=hm2
 obtain _ | m2:=m2
 ·replace h:L70_2 0 l3 z6 z7 b9=some r1:=h
  rw[L70_2]at h
  cases h
 replace h:L70_2 (m2+1) l3 z6 z7 b9=some r1:=h
 rw[L70_2]at h
 try cbv
 cases b9
 ·replace h:=ite_f Bool.false_ne_true h
  try cbv
  obtain rfl:=Option.some.inj h
  refine fin_go ?_
  try cbv
  exact⟨[],rfl,rfl,⟨rfl,trivial⟩,trivial,trivial⟩
 replace h:=ite_t rfl h
 try cbv
 refine seq_go ?_
 try cbv
 replace h:=getF_inv h
 obtain⟨x10,⟨hx0,hx⟩,h⟩:=h
 refine⟨x10,hx0,hx,?_⟩
 clear hx0 hx
 replace h:=ds_t27_inv h
 obtain⟨z11,s12,l13,rfl,h⟩:=h
 try cbv
 replace h:=bO1_inv h
 obtain⟨z14,hr,h⟩:=h
 refine call_go rfl rfl ?_
 try cbv
 refine call_with hM hI [.ext 0] ((ih _ (by omega)) hr) rfl (by simp) ⟨rfl,trivial⟩ ⟨trivial,trivial⟩ (by simp) ?_
 clear hr
 try cbv
 replace h:=letF_inv h
 obtain⟨z15,hz,h⟩:=h
 refine⟨z15,hz,?_⟩
 clear hz
 try cbv
 exact loop_next (m2,(z15,z14)) [0,3,4] [.ext 0,.loc 0] 192 ⟨by omega,h⟩ (Nat.lt_succ_of_le (by omega)) (by cbv)
mutual
def L69_1:Nat→(List D)→Int→Int→Option (Int)
 | 0,_,_,_=>none
 | n+1,l1,z3,z4=>
  lenF l1 fun z5=>(if z3<z5 then (if (0:Int)≤z4 then L69_2 n l1 z3 z4 true else L69_2 n l1 z3 z4 false)else L69_2 n l1 z3 z4 false)
def L69_2:Nat→(List D)→Int→Int→Bool→Option (Int)
 | 0,_,_,_,_=>none
 | n+1,l1,z3,z4,b6=>
  (if b6=true then getF l1 z3 fun x7=>ds_t136 x7 fun s8 z9 s10 l11=>bO1 (F68 n s8 z4) fun z12=>getF l1 z3 fun x13=>ds_t136 x13 fun s14 z15 s16 l17=>bO1 (F70 n z15 s16 l17 z12) fun z18=>letF (IntKind.wrap .i64 (z3+1)) fun z19=>L69_1 n l1 z19 z18 else some z4)
end
def F69 (n:Nat) (l1:List D) (z2:Int):Option (Int):=
 L69_1 n l1 (0:Int) z2
theorem T69 (n:Nat):∀⦃l1:List D⦄ ⦃z2:Int⦄ ⦃r1:Int⦄,F69 n l1 z2=some r1→
    Trip Try.prog inv 69 [.c (.ptr (.ext 0) 0),.d (.list true 4 l1)] [.cells [.d (.int .i64 z2)]] (.t []) [.cells [.d (.int .i64 r1)]] []:=by
 intro l1 z2 r1 h
 unfold F69 at h
 refine Trip.of tab_ok tab_one fol Try.func69 rfl (by kernel_rfl) rfl rfl rfl (fun M hM hI=>?_)
 try cbv
 refine seq_go ?_
 try cbv
 refine loop_inv (T:=Nat×Int×Int) [0,1,4] [.ext 0] 32 (fun t=>⟨[(0,.v (.c (.ptr (.ext 0) 0))),(1,.v (.d (.list true 4 l1))),(4,.v (.d (.int .i64 t.2.1)))],[(.ext 0,.cells [.d (.int .i64 t.2.2)])],32⟩)
   (fun t=>t.1≤n∧L69_1 t.1 l1 t.2.1 t.2.2=some r1) (fun t=>t.1) (n,((0:Int),z2)) ⟨Nat.le_refl _,h⟩ (by cbv) ?_
 clear h
 rintro⟨m1,z3,z4⟩ ⟨hm1,h⟩
 replace hm1:m1≤n:=hm1
 obtain _ | m1:=m1
 ·replace h:L69_1 0 l1 z3 z4=some r1:=h
  rw[L69_1]at h
  cases h
 replace h:L69_1 (m1+1) l1 z3 z4=some r1:=h
 rw[L69_1]at h
 try cbv
 refine seq_go ?_
 try cbv
 refine seq_join (T:=Nat×Bool) (fun t=>⟨[(0,.v (.c (.ptr (.ext 0) 0))),(1,.v (.d (.list true 4 l1))),(4,.v (.d (.int .i64 z3))),(15,.v (.d (.bool t.2)))],[(.ext 0,.cells [.d (.int .i64 z4)])],384⟩) (fun t=>t.1≤m1∧L69_2 t.1 l1 z3 z4 t.2=some r1) ?_ ?_
 ·try cbv
  replace h:=lenF_inv M h
  obtain⟨z5,hz,h⟩:=h
  refine⟨z5,hz,?_⟩
  clear hz
  try cbv
  refine splitL (fun e=>?_) (fun e=>?_)
  ·replace h:=ite_t e h
   clear e
   try cbv
   refine splitLe (fun e=>?_) (fun e=>?_)
   ·replace h:=ite_t e h
    clear e
    try cbv
    exact join_next (m1,true) [0,1,4,15] [.ext 0] 384 ⟨by omega,h⟩ (by cbv)
   replace h:=ite_f (Int.not_le.2 e) h
   clear e
   try cbv
   exact join_next (m1,false) [0,1,4,15] [.ext 0] 384 ⟨by omega,h⟩ (by cbv)
  replace h:=ite_f (Int.not_lt.2 e) h
  clear e
  try cbv
  exact join_next (m1,false) [0,1,4,15] [.ext 0] 384 ⟨by omega,h⟩ (by cbv)
 clear h
 rintro⟨m2,b6⟩ ⟨hm2,h⟩
 replace hm2:m2≤m1:=hm2
 obtain _ | m2:=m2
 ·replace h:L69_2 0 l1 z3 z4 b6=some r1:=h
  rw[L69_2]at h
  cases h
 replace h:L69_2 (m2+1) l1 z3 z4 b6=some r1:=h
 rw[L69_2]at h
 try cbv
 cases b6
 ·replace h:=ite_f Bool.false_ne_true h
  try cbv
  obtain rfl:=Option.some.inj h
  refine fin_go ?_
  try cbv
  exact⟨[],rfl,rfl,⟨rfl,trivial⟩,trivial,trivial⟩
 replace h:=ite_t rfl h
 try cbv
 refine seq_go ?_
 try cbv
 refine seq_go ?_
 try cbv
 replace h:=getF_inv h
 obtain⟨x7,⟨hx0,hx⟩,h⟩:=h
 refine⟨x7,hx0,hx,?_⟩
 clear hx0 hx
 replace h:=ds_t136_inv h
 obtain⟨s8,z9,s10,l11,rfl,h⟩:=h
 try cbv
 replace h:=bO1_inv h
 obtain⟨z12,hr,h⟩:=h
 refine call_go rfl rfl ?_
 try cbv
 refine call_with hM hI [.ext 0] (T68 _ hr) rfl (by simp) ⟨rfl,trivial⟩ ⟨trivial,trivial⟩ (by simp) ?_
 clear hr
 try cbv
 replace h:=getF_inv h
 obtain⟨x13,⟨hx0,hx⟩,h⟩:=h
 refine⟨x13,hx0,hx,?_⟩
 clear hx0 hx
 replace h:=ds_t136_inv h
 obtain⟨s14,z15,s16,l17,rfl,h⟩:=h
 try cbv
 replace h:=bO1_inv h
 obtain⟨z18,hr,h⟩:=h
 refine call_go rfl rfl ?_
 try cbv
 refine call_with hM hI [.ext 0] (T70 _ hr) rfl (by simp) ⟨rfl,trivial⟩ ⟨trivial,trivial⟩ (by simp) ?_
 clear hr
 try cbv
 replace h:=letF_inv h
 obtain⟨z19,hz,h⟩:=h
 refine⟨z19,hz,?_⟩
 clear hz
 try cbv
 exact loop_next (m2,(z19,z18)) [0,1,4] [.ext 0] 32 ⟨by omega,h⟩ (Nat.lt_succ_of_le (by omega)) (by cbv)
mutual
def L120_1:Nat→(List D)→Int→Int→Option (Int)
 | 0,_,_,_=>none
 | n+1,l1,z4,z5=>
  lenF l1 fun z6=>(if z4<z6 then (if (0:Int)≤z5 then L120_2 n l1 z4 z5 true else L120_2 n l1 z4 z5 false)else L120_2 n l1 z4 z5 false)
def L120_2:Nat→(List D)→Int→Int→Bool→Option (Int)
 | 0,_,_,_,_=>none
 | n+1,l1,z4,z5,b7=>
  (if b7=true then getF l1 z4 fun x8=>ds_str x8 fun s9=>bO1 (F68 n s9 z5) fun z10=>letF (IntKind.wrap .i64 (z4+1)) fun z11=>L120_1 n l1 z11 z10 else some z5)
end
def F120 (n:Nat) (l1:List D) (z2:Int):Option (Int):=
 letF (IntKind.wrap .i64 (z2 - 5)) fun z3=>L120_1 n l1 (0:Int) z3
theorem T120 (n:Nat):∀⦃l1:List D⦄ ⦃z2:Int⦄ ⦃r1:Int⦄,F120 n l1 z2=some r1→
    Trip Try.prog inv 120 [.c (.ptr (.ext 0) 0),.d (.list false 1 l1)] [.cells [.d (.int .i64 z2)]] (.t []) [.cells [.d (.int .i64 r1)]] []:=by
 intro l1 z2 r1 h
 unfold F120 at h
 refine Trip.of tab_ok tab_one fol Try.func120 rfl (by kernel_rfl) rfl rfl rfl (fun M hM hI=>?_)
 try cbv
 refine seq_go ?_
 try cbv
 replace h:=letF_inv h
 obtain⟨z3,hz,h⟩:=h
 refine⟨z3,hz,?_⟩
 clear hz
 try cbv
 refine seq_go ?_
 try cbv
 refine loop_inv (T:=Nat×Int×Int) [0,1,4] [.ext 0] 320 (fun t=>⟨[(0,.v (.c (.ptr (.ext 0) 0))),(1,.v (.d (.list false 1 l1))),(4,.v (.d (.int .i64 t.2.1)))],[(.ext 0,.cells [.d (.int .i64 t.2.2)])],320⟩)
   (fun t=>t.1≤n∧L120_1 t.1 l1 t.2.1 t.2.2=some r1) (fun t=>t.1) (n,((0:Int),z3)) ⟨Nat.le_refl _,h⟩ (by cbv) ?_
 clear h
 rintro⟨m1,z4,z5⟩ ⟨hm1,h⟩
 replace hm1:m1≤n:=hm1
 obtain _ | m1:=m1
 ·replace h:L120_1 0 l1 z4 z5=some r1:=h
  rw[L120_1]at h
  cases h
 replace h:L120_1 (m1+1) l1 z4 z5=some r1:=h
 rw[L120_1]at h
 try cbv
 refine seq_go ?_
 try cbv
 refine seq_join (T:=Nat×Bool) (fun t=>⟨[(0,.v (.c (.ptr (.ext 0) 0))),(1,.v (.d (.list false 1 l1))),(4,.v (.d (.int .i64 z4))),(23,.v (.d (.bool t.2)))],[(.ext 0,.cells [.d (.int .i64 z5)])],672⟩) (fun t=>t.1≤m1∧L120_2 t.1 l1 z4 z5 t.2=some r1) ?_ ?_
 ·try cbv
  replace h:=lenF_inv M h
  obtain⟨z6,hz,h⟩:=h
  refine⟨z6,hz,?_⟩
  clear hz
  try cbv
  refine splitL (fun e=>?_) (fun e=>?_)
  ·replace h:=ite_t e h
   clear e
   try cbv
   refine splitLe (fun e=>?_) (fun e=>?_)
   ·replace h:=ite_t e h
    clear e
    try cbv
    exact join_next (m1,true) [0,1,4,23] [.ext 0] 672 ⟨by omega,h⟩ (by cbv)
   replace h:=ite_f (Int.not_le.2 e) h
   clear e
   try cbv
   exact join_next (m1,false) [0,1,4,23] [.ext 0] 672 ⟨by omega,h⟩ (by cbv)
  replace h:=ite_f (Int.not_lt.2 e) h
  clear e
  try cbv
  exact join_next (m1,false) [0,1,4,23] [.ext 0] 672 ⟨by omega,h⟩ (by cbv)
 clear h
 rintro⟨m2,b7⟩ ⟨hm2,h⟩
 replace hm2:m2≤m1:=hm2
 obtain _ | m2:=m2
 ·replace h:L120_2 0 l1 z4 z5 b7=some r1:=h
  rw[L120_2]at h
  cases h
 replace h:L120_2 (m2+1) l1 z4 z5 b7=some r1:=h
 rw[L120_2]at h
 try cbv
 cases b7
 ·replace h:=ite_f Bool.false_ne_true h
  try cbv
  obtain rfl:=Option.some.inj h
  refine fin_go ?_
  try cbv
  exact⟨[],rfl,rfl,⟨rfl,trivial⟩,trivial,trivial⟩
 replace h:=ite_t rfl h
 try cbv
 refine seq_go ?_
 try cbv
 replace h:=getF_inv h
 obtain⟨x8,⟨hx0,hx⟩,h⟩:=h
 refine⟨x8,hx0,hx,?_⟩
 clear hx0 hx
 replace h:=ds_str_inv h
 obtain⟨s9,rfl,h⟩:=h
 try cbv
 replace h:=bO1_inv h
 obtain⟨z10,hr,h⟩:=h
 refine call_go rfl rfl ?_
 try cbv
 refine call_with hM hI [.ext 0] (T68 _ hr) rfl (by simp) ⟨rfl,trivial⟩ ⟨trivial,trivial⟩ (by simp) ?_
 clear hr
 try cbv
 replace h:=letF_inv h
 obtain⟨z11,hz,h⟩:=h
 refine⟨z11,hz,?_⟩
 clear hz
 try cbv
 exact loop_next (m2,(z11,z10)) [0,1,4] [.ext 0] 320 ⟨by omega,h⟩ (Nat.lt_succ_of_le (by omega)) (by cbv)
def F121 (n:Nat) (s1:ByteArray) (l2:List D) (z3:Int):Option (Int):=
 bO1 (F68 n s1 z3) fun z4=>bO1 (F120 n l2 z4) fun z5=>some z5
theorem T121 (n:Nat):∀⦃s1:ByteArray⦄ ⦃l2:List D⦄ ⦃z3:Int⦄ ⦃r1:Int⦄,F121 n s1 l2 z3=some r1→
    Trip Try.prog inv 121 [.c (.ptr (.ext 0) 0),.d (.agg [.str s1,.list false 1 l2])] [.cells [.d (.int .i64 z3)]] (.t []) [.cells [.d (.int .i64 r1)]] []:=by
 intro s1 l2 z3 r1 h
 unfold F121 at h
 refine Trip.of tab_ok tab_one fol Try.func121 rfl (by kernel_rfl) rfl rfl rfl (fun M hM hI=>?_)
 try cbv
 refine seq_go ?_
 try cbv
 refine seq_go ?_
 try cbv
 replace h:=bO1_inv h
 obtain⟨z4,hr,h⟩:=h
 refine call_go rfl rfl ?_
 try cbv
 refine call_with hM hI [.ext 0] (T68 _ hr) rfl (by simp) ⟨rfl,trivial⟩ ⟨trivial,trivial⟩ (by simp) ?_
 clear hr
 try cbv
 replace h:=bO1_inv h
 obtain⟨z5,hr,h⟩:=h
 refine call_go rfl rfl ?_
 try cbv
 refine call_with hM hI [.ext 0] (T120 _ hr) rfl (by simp) ⟨rfl,trivial⟩ ⟨trivial,trivial⟩ (by simp) ?_
 clear hr
 try cbv
 obtain rfl:=Option.some.inj h
 refine fin_go ?_
 try cbv
 exact⟨[],rfl,rfl,⟨rfl,trivial⟩,trivial,trivial⟩
mutual
def L72_1:Nat→(List D)→Int→Int→Option (Int)
 | 0,_,_,_=>none
 | n+1,l7,z13,z14=>
  lenF l7 fun z15=>(if z13<z15 then (if (0:Int)≤z14 then L72_2 n l7 z13 z14 true else L72_2 n l7 z13 z14 false)else L72_2 n l7 z13 z14 false)
def L72_2:Nat→(List D)→Int→Int→Bool→Option (Int)
 | 0,_,_,_,_=>none
 | n+1,l7,z13,z14,b16=>
  (if b16=true then getF l7 z13 fun x17=>ds_t33 x17 fun z18 z19 s20 s21 s22 l23 l24 z25=>bO1 (F72 n z18 z19 s20 s21 s22 l23 l24 z25 z14) fun z26=>letF (IntKind.wrap .i64 (z13+1)) fun z27=>L72_1 n l7 z27 z26 else some z14)
def F72:Nat→Int→Int→ByteArray→ByteArray→ByteArray→(List D)→(List D)→Int→Int→Option (Int)
 | 0,_,_,_,_,_,_,_,_,_=>none
 | n+1,z1,z2,s3,s4,s5,l6,l7,z8,z9=>
  bO1 (F68 n s3 z9) fun z10=>bO1 (F68 n s4 z10) fun z11=>bO1 (F121 n s5 l6 z11) fun z12=>L72_1 n l7 (0:Int) z12
end
theorem T72 (n:Nat):∀⦃z1:Int⦄ ⦃z2:Int⦄ ⦃s3:ByteArray⦄ ⦃s4:ByteArray⦄ ⦃s5:ByteArray⦄ ⦃l6:List D⦄ ⦃l7:List D⦄ ⦃z8:Int⦄ ⦃z9:Int⦄ ⦃r1:Int⦄,F72 n z1 z2 s3 s4 s5 l6 l7 z8 z9=some r1→
    Trip Try.prog inv 72 [.c (.ptr (.ext 0) 0),.d (.agg [.int .u8 z1,.int .i64 z2,.str s3,.str s4,.str s5,.list false 1 l6,.list true 8 l7,.int .i64 z8])] [.cells [.d (.int .i64 z9)]] (.t []) [.cells [.d (.int .i64 r1)]] []:=by
 induction n using Nat.strongRecOn with | _ n ih=>
 obtain _ | n:=n
 ·intro z1 z2 s3 s4 s5 l6 l7 z8 z9 r1 h
  cases (show (none:Option _)=some _ from h)
 intro z1 z2 s3 s4 s5 l6 l7 z8 z9 r1 h
 rw[F72]at h
 refine Trip.of tab_ok tab_one fol Try.func72 rfl (by kernel_rfl) rfl rfl rfl (fun M hM hI=>?_)
 try cbv
 refine seq_go ?_
 try cbv
 refine seq_go ?_
 try cbv
 replace h:=bO1_inv h
 obtain⟨z10,hr,h⟩:=h
 refine call_go rfl rfl ?_
 try cbv
 refine call_with hM hI [.ext 0] (T68 _ hr) rfl (by simp) ⟨rfl,trivial⟩ ⟨trivial,trivial⟩ (by simp) ?_
 clear hr
 try cbv
 refine seq_go ?_
 try cbv
 replace h:=bO1_inv h
 obtain⟨z11,hr,h⟩:=h
 refine call_go rfl rfl ?_
 try cbv
 refine call_with hM hI [.ext 0] (T68 _ hr) rfl (by simp) ⟨rfl,trivial⟩ ⟨trivial,trivial⟩ (by simp) ?_
 clear hr
 try cbv
 refine seq_go ?_
 try cbv
 replace h:=bO1_inv h
 obtain⟨z12,hr,h⟩:=h
 refine call_go rfl rfl ?_
 try cbv
 refine call_with hM hI [.ext 0] (T121 _ hr) rfl (by simp) ⟨rfl,trivial⟩ ⟨trivial,trivial⟩ (by simp) ?_
 clear hr
 try cbv
 refine seq_go ?_
 try cbv
 refine loop_inv (T:=Nat×Int×Int) [0,3,4] [.ext 0,.loc 0] 448 (fun t=>⟨[(0,.v (.c (.ptr (.ext 0) 0))),(3,.v (.c (.ptr (.loc 0) 0))),(4,.v (.d (.int .i64 t.2.1)))],[(.ext 0,.cells [.d (.int .i64 t.2.2)]),(.loc 0,.cells [.d (.int .u8 z1),.d (.int .i64 z2),.d (.str s3),.d (.str s4),.d (.str s5),.d (.list false 1 l6),.d (.list true 8 l7),.d (.int .i64 z8)])],448⟩)
   (fun t=>t.1≤n∧L72_1 t.1 l7 t.2.1 t.2.2=some r1) (fun t=>t.1) (n,((0:Int),z12)) ⟨Nat.le_refl _,h⟩ (by cbv) ?_
 clear h
 rintro⟨m1,z13,z14⟩ ⟨hm1,h⟩
 replace hm1:m1≤n:=hm1
 obtain _ | m1:=m1
 ·replace h:L72_1 0 l7 z13 z14=some r1:=h
  rw[L72_1]at h
  cases h
 replace h:L72_1 (m1+1) l7 z13 z14=some r1:=h
 rw[L72_1]at h
 try cbv
 refine seq_go ?_
 try cbv
 refine seq_join (T:=Nat×Bool) (fun t=>⟨[(0,.v (.c (.ptr (.ext 0) 0))),(3,.v (.c (.ptr (.loc 0) 0))),(4,.v (.d (.int .i64 z13))),(28,.v (.d (.bool t.2)))],[(.ext 0,.cells [.d (.int .i64 z14)]),(.loc 0,.cells [.d (.int .u8 z1),.d (.int .i64 z2),.d (.str s3),.d (.str s4),.d (.str s5),.d (.list false 1 l6),.d (.list true 8 l7),.d (.int .i64 z8)])],832⟩) (fun t=>t.1≤m1∧L72_2 t.1 l7 z13 z14 t.2=some r1) ?_ ?_
 ·try cbv
  replace h:=lenF_inv M h
  obtain⟨z15,hz,h⟩:=h
  refine⟨z15,hz,?_⟩
  clear hz
  try cbv
  refine splitL (fun e=>?_) (fun e=>?_)
  ·replace h:=ite_t e h
   clear e
   try cbv
   refine splitLe (fun e=>?_) (fun e=>?_)
   ·replace h:=ite_t e h
    clear e
    try cbv
    exact join_next (m1,true) [0,3,4,28] [.ext 0,.loc 0] 832 ⟨by omega,h⟩ (by cbv)
   replace h:=ite_f (Int.not_le.2 e) h
   clear e
   try cbv
   exact join_next (m1,false) [0,3,4,28] [.ext 0,.loc 0] 832 ⟨by omega,h⟩ (by cbv)
  replace h:=ite_f (Int.not_lt.2 e) h
  clear e
  try cbv
  exact join_next (m1,false) [0,3,4,28] [.ext 0,.loc 0] 832 ⟨by omega,h⟩ (by cbv)
 clear h
 rintro⟨m2,b16⟩ ⟨hm2,h⟩
 replace hm2:m2≤m1:=hm2
 obtain _ | m2:=m2
 ·replace h:L72_2 0 l7 z13 z14 b16=some r1:=h
  rw[L72_2]at h
  cases h
 replace h:L72_2 (m2+1) l7 z13 z14 b16=some r1:=h
 rw[L72_2]at h
 try cbv
 cases b16
 ·replace h:=ite_f Bool.false_ne_true h
  try cbv
  obtain rfl:=Option.some.inj h
  refine fin_go ?_
  try cbv
  exact⟨[],rfl,rfl,⟨rfl,trivial⟩,trivial,trivial⟩
 replace h:=ite_t rfl h
 try cbv
 refine seq_go ?_
 try cbv
 replace h:=getF_inv h
 obtain⟨x17,⟨hx0,hx⟩,h⟩:=h
 refine⟨x17,hx0,hx,?_⟩
 clear hx0 hx
 replace h:=ds_t33_inv h
 obtain⟨z18,z19,s20,s21,s22,l23,l24,z25,rfl,h⟩:=h
 try cbv
 replace h:=bO1_inv h
 obtain⟨z26,hr,h⟩:=h
 refine call_go rfl rfl ?_
 try cbv
 refine call_with hM hI [.ext 0] ((ih _ (by omega)) hr) rfl (by simp) ⟨rfl,trivial⟩ ⟨trivial,trivial⟩ (by simp) ?_
 clear hr
 try cbv
 replace h:=letF_inv h
 obtain⟨z27,hz,h⟩:=h
 refine⟨z27,hz,?_⟩
 clear hz
 try cbv
 exact loop_next (m2,(z27,z26)) [0,3,4] [.ext 0,.loc 0] 448 ⟨by omega,h⟩ (Nat.lt_succ_of_le (by omega)) (by cbv)
mutual
def L71_1:Nat→(List D)→Int→Int→Option (Int)
 | 0,_,_,_=>none
 | n+1,l1,z3,z4=>
  lenF l1 fun z5=>(if z3<z5 then (if (0:Int)≤z4 then L71_2 n l1 z3 z4 true else L71_2 n l1 z3 z4 false)else L71_2 n l1 z3 z4 false)
def L71_2:Nat→(List D)→Int→Int→Bool→Option (Int)
 | 0,_,_,_,_=>none
 | n+1,l1,z3,z4,b6=>
  (if b6=true then getF l1 z3 fun x7=>ds_t152 x7 fun z8 s9 s10 l11 z12 s13 l14 z15 s16 l17 l18 l19 l20 l21 z22=>bO1 (F68 n s9 z4) fun z23=>bO1 (F68 n s10 z23) fun z24=>bO1 (F120 n l11 z24) fun z25=>bO1 (F70 n z12 s13 l14 z25) fun z26=>bO1 (F121 n s16 l17 z26) fun z27=>L71_3 n l1 z3 l18 l19 l20 l21 (0:Int) z27 else some z4)
def L71_3:Nat→(List D)→Int→(List D)→(List D)→(List D)→(List D)→Int→Int→Option (Int)
 | 0,_,_,_,_,_,_,_,_=>none
 | n+1,l1,z3,l18,l19,l20,l21,z28,z29=>
  lenF l18 fun z30=>(if z28<z30 then (if (0:Int)≤z29 then L71_4 n l1 z3 l18 l19 l20 l21 z28 z29 true else L71_4 n l1 z3 l18 l19 l20 l21 z28 z29 false)else L71_4 n l1 z3 l18 l19 l20 l21 z28 z29 false)
def L71_4:Nat→(List D)→Int→(List D)→(List D)→(List D)→(List D)→Int→Int→Bool→Option (Int)
 | 0,_,_,_,_,_,_,_,_,_=>none
 | n+1,l1,z3,l18,l19,l20,l21,z28,z29,b31=>
  (if b31=true then getF l18 z28 fun x32=>ds_t33 x32 fun z33 z34 s35 s36 s37 l38 l39 z40=>bO1 (F72 n z33 z34 s35 s36 s37 l38 l39 z40 z29) fun z41=>letF (IntKind.wrap .i64 (z28+1)) fun z42=>L71_3 n l1 z3 l18 l19 l20 l21 z42 z41 else (if z29<(0:Int)then L71_5 n l1 z3 l19 l20 l21 z29 true else L71_5 n l1 z3 l19 l20 l21 z29 false))
def L71_5:Nat→(List D)→Int→(List D)→(List D)→(List D)→Int→Bool→Option (Int)
 | 0,_,_,_,_,_,_,_=>none
 | n+1,l1,z3,l19,l20,l21,z29,b43=>
  (if b43=true then some z29 else bO1 (F71 n l19 z29) fun z44=>bO1 (F71 n l20 z44) fun z45=>L71_6 n l1 z3 l21 (0:Int) z45)
def L71_6:Nat→(List D)→Int→(List D)→Int→Int→Option (Int)
 | 0,_,_,_,_,_=>none
 | n+1,l1,z3,l21,z46,z47=>
  lenF l21 fun z48=>(if z46<z48 then (if (0:Int)≤z47 then L71_7 n l1 z3 l21 z46 z47 true else L71_7 n l1 z3 l21 z46 z47 false)else L71_7 n l1 z3 l21 z46 z47 false)
def L71_7:Nat→(List D)→Int→(List D)→Int→Int→Bool→Option (Int)
 | 0,_,_,_,_,_,_=>none
 | n+1,l1,z3,l21,z46,z47,b49=>
  (if b49=true then getF l21 z46 fun x50=>ds_t154 x50 fun s51 s52 l53=>bO1 (F68 n s51 z47) fun z54=>getF l21 z46 fun x55=>ds_t154 x55 fun s56 s57 l58=>bO1 (F68 n s57 z54) fun z59=>getF l21 z46 fun x60=>ds_t154 x60 fun s61 s62 l63=>bO1 (F71 n l63 z59) fun z64=>letF (IntKind.wrap .i64 (z46+1)) fun z65=>L71_6 n l1 z3 l21 z65 z64 else letF (IntKind.wrap .i64 (z3+1)) fun z66=>L71_1 n l1 z66 z47)
def F71:Nat→(List D)→Int→Option (Int)
 | 0,_,_=>none
 | n+1,l1,z2=>
  L71_1 n l1 (0:Int) z2
end
theorem T71 (n:Nat):∀⦃l1:List D⦄ ⦃z2:Int⦄ ⦃r1:Int⦄,F71 n l1 z2=some r1→
    Trip Try.prog inv 71 [.c (.ptr (.ext 0) 0),.d (.list true 15 l1)] [.cells [.d (.int .i64 z2)]] (.t []) [.cells [.d (.int .i64 r1)]] []:=by
 induction n using Nat.strongRecOn with | _ n ih=>
 obtain _ | n:=n
 ·intro l1 z2 r1 h
  cases (show (none:Option _)=some _ from h)
 intro l1 z2 r1 h
 rw[F71]at h
 refine Trip.of tab_ok tab_one fol Try.func71 rfl (by kernel_rfl) rfl rfl rfl (fun M hM hI=>?_)
 try cbv
 refine seq_go ?_
 try cbv
 refine loop_inv (T:=Nat×Int×Int) [0,1,4] [.ext 0] 32 (fun t=>⟨[(0,.v (.c (.ptr (.ext 0) 0))),(1,.v (.d (.list true 15 l1))),(4,.v (.d (.int .i64 t.2.1)))],[(.ext 0,.cells [.d (.int .i64 t.2.2)])],32⟩)
   (fun t=>t.1≤n∧L71_1 t.1 l1 t.2.1 t.2.2=some r1) (fun t=>t.1) (n,((0:Int),z2)) ⟨Nat.le_refl _,h⟩ (by cbv) ?_
 clear h
 rintro⟨m1,z3,z4⟩ ⟨hm1,h⟩
 replace hm1:m1≤n:=hm1
 obtain _ | m1:=m1
 ·replace h:L71_1 0 l1 z3 z4=some r1:=h
  rw[L71_1]at h
  cases h
 replace h:L71_1 (m1+1) l1 z3 z4=some r1:=h
 rw[L71_1]at h
 try cbv
 refine seq_go ?_
 try cbv
 refine seq_join (T:=Nat×Bool) (fun t=>⟨[(0,.v (.c (.ptr (.ext 0) 0))),(1,.v (.d (.list true 15 l1))),(4,.v (.d (.int .i64 z3))),(18,.v (.d (.bool t.2)))],[(.ext 0,.cells [.d (.int .i64 z4)])],384⟩) (fun t=>t.1≤m1∧L71_2 t.1 l1 z3 z4 t.2=some r1) ?_ ?_
 ·try cbv
  replace h:=lenF_inv M h
  obtain⟨z5,hz,h⟩:=h
  refine⟨z5,hz,?_⟩
  clear hz
  try cbv
  refine splitL (fun e=>?_) (fun e=>?_)
  ·replace h:=ite_t e h
   clear e
   try cbv
   refine splitLe (fun e=>?_) (fun e=>?_)
   ·replace h:=ite_t e h
    clear e
    try cbv
    exact join_next (m1,true) [0,1,4,18] [.ext 0] 384 ⟨by omega,h⟩ (by cbv)
   replace h:=ite_f (Int.not_le.2 e) h
   clear e
   try cbv
   exact join_next (m1,false) [0,1,4,18] [.ext 0] 384 ⟨by omega,h⟩ (by cbv)
  replace h:=ite_f (Int.not_lt.2 e) h
  clear e
  try cbv
  exact join_next (m1,false) [0,1,4,18] [.ext 0] 384 ⟨by omega,h⟩ (by cbv)
 clear h
 rintro⟨m2,b6⟩ ⟨hm2,h⟩
 replace hm2:m2≤m1:=hm2
 obtain _ | m2:=m2
 ·replace h:L71_2 0 l1 z3 z4 b6=some r1:=h
  rw[L71_2]at h
  cases h
 replace h:L71_2 (m2+1) l1 z3 z4 b6=some r1:=h
 rw[L71_2]at h
 try cbv
 cases b6
 ·replace h:=ite_f Bool.false_ne_true h
  try cbv
  obtain rfl:=Option.some.inj h
  refine fin_go ?_
  try cbv
  exact⟨[],rfl,rfl,⟨rfl,trivial⟩,trivial,trivial⟩
 replace h:=ite_t rfl h
 try cbv
 refine seq_go ?_
 try cbv
 refine seq_go ?_
 try cbv
 replace h:=getF_inv h
 obtain⟨x7,⟨hx0,hx⟩,h⟩:=h
 refine⟨x7,hx0,hx,?_⟩
 clear hx0 hx
 replace h:=ds_t152_inv h
 obtain⟨z8,s9,s10,l11,z12,s13,l14,z15,s16,l17,l18,l19,l20,l21,z22,rfl,h⟩:=h
 try cbv
 refine seq_go ?_
 try cbv
 replace h:=bO1_inv h
 obtain⟨z23,hr,h⟩:=h
 refine call_go rfl rfl ?_
 try cbv
 refine call_with hM hI [.ext 0] (T68 _ hr) rfl (by simp) ⟨rfl,trivial⟩ ⟨trivial,trivial⟩ (by simp) ?_
 clear hr
 try cbv
 refine seq_go ?_
 try cbv
 replace h:=bO1_inv h
 obtain⟨z24,hr,h⟩:=h
 refine call_go rfl rfl ?_
 try cbv
 refine call_with hM hI [.ext 0] (T68 _ hr) rfl (by simp) ⟨rfl,trivial⟩ ⟨trivial,trivial⟩ (by simp) ?_
 clear hr
 try cbv
 refine seq_go ?_
 try cbv
 replace h:=bO1_inv h
 obtain⟨z25,hr,h⟩:=h
 refine call_go rfl rfl ?_
 try cbv
 refine call_with hM hI [.ext 0] (T120 _ hr) rfl (by simp) ⟨rfl,trivial⟩ ⟨trivial,trivial⟩ (by simp) ?_
 clear hr
 try cbv
 refine seq_go ?_
 try cbv
 replace h:=bO1_inv h
 obtain⟨z26,hr,h⟩:=h
 refine call_go rfl rfl ?_
 try cbv
 refine call_with hM hI [.ext 0] (T70 _ hr) rfl (by simp) ⟨rfl,trivial⟩ ⟨trivial,trivial⟩ (by simp) ?_
 clear hr
 try cbv
 refine seq_go ?_
 try cbv
 replace h:=bO1_inv h
 obtain⟨z27,hr,h⟩:=h
 refine call_go rfl rfl ?_
 try cbv
 refine call_with hM hI [.ext 0] (T121 _ hr) rfl (by simp) ⟨rfl,trivial⟩ ⟨trivial,trivial⟩ (by simp) ?_
 clear hr
 try cbv
 refine seq_go ?_
 try cbv
 refine seq_go ?_
 try cbv
 refine loop_inv (T:=Nat×Int×Int) [0,1,4,5,6] [.ext 0,.loc 512] 1248 (fun t=>⟨[(0,.v (.c (.ptr (.ext 0) 0))),(1,.v (.d (.list true 15 l1))),(4,.v (.d (.int .i64 z3))),(5,.v (.c (.ptr (.loc 512) 0))),(6,.v (.d (.int .i64 t.2.1)))],[(.ext 0,.cells [.d (.int .i64 t.2.2)]),(.loc 512,.cells [.d (.int .u8 z8),.d (.str s9),.d (.str s10),.d (.list false 1 l11),.d (.int .u8 z12),.d (.str s13),.d (.list true 3 l14),.d (.int .i64 z15),.d (.str s16),.d (.list false 1 l17),.d (.list true 8 l18),.d (.list true 15 l19),.d (.list true 15 l20),.d (.list true 3 l21),.d (.int .i64 z22)])],1248⟩)
   (fun t=>t.1≤m2∧L71_3 t.1 l1 z3 l18 l19 l20 l21 t.2.1 t.2.2=some r1) (fun t=>t.1) (m2,((0:Int),z27)) ⟨Nat.le_refl _,h⟩ (by cbv) ?_
 clear h
 rintro⟨m3,z28,z29⟩ ⟨hm3,h⟩
 replace hm3:m3≤m2:=hm3
 obtain _ | m3:=m3
 ·replace h:L71_3 0 l1 z3 l18 l19 l20 l21 z28 z29=some r1:=h
  rw[L71_3]at h
  cases h
 replace h:L71_3 (m3+1) l1 z3 l18 l19 l20 l21 z28 z29=some r1:=h
 rw[L71_3]at h
 try cbv
 refine seq_go ?_
 try cbv
 refine seq_join (T:=Nat×Bool) (fun t=>⟨[(0,.v (.c (.ptr (.ext 0) 0))),(1,.v (.d (.list true 15 l1))),(4,.v (.d (.int .i64 z3))),(5,.v (.c (.ptr (.loc 512) 0))),(6,.v (.d (.int .i64 z28))),(56,.v (.d (.bool t.2)))],[(.ext 0,.cells [.d (.int .i64 z29)]),(.loc 512,.cells [.d (.int .u8 z8),.d (.str s9),.d (.str s10),.d (.list false 1 l11),.d (.int .u8 z12),.d (.str s13),.d (.list true 3 l14),.d (.int .i64 z15),.d (.str s16),.d (.list false 1 l17),.d (.list true 8 l18),.d (.list true 15 l19),.d (.list true 15 l20),.d (.list true 3 l21),.d (.int .i64 z22)])],1632⟩) (fun t=>t.1≤m3∧L71_4 t.1 l1 z3 l18 l19 l20 l21 z28 z29 t.2=some r1) ?_ ?_
 ·try cbv
  replace h:=lenF_inv M h
  obtain⟨z30,hz,h⟩:=h
  refine⟨z30,hz,?_⟩
  clear hz
  try cbv
  refine splitL (fun e=>?_) (fun e=>?_)
  ·replace h:=ite_t e h
   clear e
   try cbv
   refine splitLe (fun e=>?_) (fun e=>?_)
   ·replace h:=ite_t e h
    clear e
    try cbv
    exact join_next (m3,true) [0,1,4,5,6,56] [.ext 0,.loc 512] 1632 ⟨by omega,h⟩ (by cbv)
   replace h:=ite_f (Int.not_le.2 e) h
   clear e
   try cbv
   exact join_next (m3,false) [0,1,4,5,6,56] [.ext 0,.loc 512] 1632 ⟨by omega,h⟩ (by cbv)
  replace h:=ite_f (Int.not_lt.2 e) h
  clear e
  try cbv
  exact join_next (m3,false) [0,1,4,5,6,56] [.ext 0,.loc 512] 1632 ⟨by omega,h⟩ (by cbv)
 clear h
 rintro⟨m4,b31⟩ ⟨hm4,h⟩
 replace hm4:m4≤m3:=hm4
 obtain _ | m4:=m4
 ·replace h:L71_4 0 l1 z3 l18 l19 l20 l21 z28 z29 b31=some r1:=h
  rw[L71_4]at h
  cases h
 replace h:L71_4 (m4+1) l1 z3 l18 l19 l20 l21 z28 z29 b31=some r1:=h
 rw[L71_4]at h
 try cbv
 cases b31
 rotate_left
 ·replace h:=ite_t rfl h
  try cbv
  refine seq_go ?_
  try cbv
  replace h:=getF_inv h
  obtain⟨x32,⟨hx0,hx⟩,h⟩:=h
  refine⟨x32,hx0,hx,?_⟩
  clear hx0 hx
  replace h:=ds_t33_inv h
  obtain⟨z33,z34,s35,s36,s37,l38,l39,z40,rfl,h⟩:=h
  try cbv
  replace h:=bO1_inv h
  obtain⟨z41,hr,h⟩:=h
  refine call_go rfl rfl ?_
  try cbv
  refine call_with hM hI [.ext 0] (T72 _ hr) rfl (by simp) ⟨rfl,trivial⟩ ⟨trivial,trivial⟩ (by simp) ?_
  clear hr
  try cbv
  replace h:=letF_inv h
  obtain⟨z42,hz,h⟩:=h
  refine⟨z42,hz,?_⟩
  clear hz
  try cbv
  exact loop_next (m4,(z42,z41)) [0,1,4,5,6] [.ext 0,.loc 512] 1248 ⟨by omega,h⟩ (Nat.lt_succ_of_le (by omega)) (by cbv)
 replace h:=ite_f Bool.false_ne_true h
 try cbv
 refine seq_go ?_
 try cbv
 refine seq_join (T:=Nat×Bool) (fun t=>⟨[(0,.v (.c (.ptr (.ext 0) 0))),(1,.v (.d (.list true 15 l1))),(4,.v (.d (.int .i64 z3))),(5,.v (.c (.ptr (.loc 512) 0))),(6,.v (.d (.int .i64 z28))),(70,.v (.d (.bool t.2)))],[(.ext 0,.cells [.d (.int .i64 z29)]),(.loc 512,.cells [.d (.int .u8 z8),.d (.str s9),.d (.str s10),.d (.list false 1 l11),.d (.int .u8 z12),.d (.str s13),.d (.list true 3 l14),.d (.int .i64 z15),.d (.str s16),.d (.list false 1 l17),.d (.list true 8 l18),.d (.list true 15 l19),.d (.list true 15 l20),.d (.list true 3 l21),.d (.int .i64 z22)])],1792⟩) (fun t=>t.1≤m4∧L71_5 t.1 l1 z3 l19 l20 l21 z29 t.2=some r1) ?_ ?_
 ·try cbv
  refine splitL (fun e=>?_) (fun e=>?_)
  ·replace h:=ite_t e h
   clear e
   try cbv
   exact join_next (m4,true) [0,1,4,5,6,70] [.ext 0,.loc 512] 1792 ⟨by omega,h⟩ (by cbv)
  replace h:=ite_f (Int.not_lt.2 e) h
  clear e
  try cbv
  exact join_next (m4,false) [0,1,4,5,6,70] [.ext 0,.loc 512] 1792 ⟨by omega,h⟩ (by cbv)
 clear h
 rintro⟨m5,b43⟩ ⟨hm5,h⟩
 replace hm5:m5≤m4:=hm5
 obtain _ | m5:=m5
 ·replace h:L71_5 0 l1 z3 l19 l20 l21 z29 b43=some r1:=h
  rw[L71_5]at h
  cases h
 replace h:L71_5 (m5+1) l1 z3 l19 l20 l21 z29 b43=some r1:=h
 rw[L71_5]at h
 try cbv
 cases b43
 rotate_left
 ·replace h:=ite_t rfl h
  try cbv
  obtain rfl:=Option.some.inj h
  refine fin_go ?_
  try cbv
  exact⟨[],rfl,rfl,⟨rfl,trivial⟩,trivial,trivial⟩
 replace h:=ite_f Bool.false_ne_true h
 try cbv
 refine seq_go ?_
 try cbv
 replace h:=bO1_inv h
 obtain⟨z44,hr,h⟩:=h
 refine call_go rfl rfl ?_
 try cbv
 refine call_with hM hI [.ext 0] ((ih _ (by omega)) hr) rfl (by simp) ⟨rfl,trivial⟩ ⟨trivial,trivial⟩ (by simp) ?_
 clear hr
 try cbv
 refine seq_go ?_
 try cbv
 replace h:=bO1_inv h
 obtain⟨z45,hr,h⟩:=h
 refine call_go rfl rfl ?_
 try cbv
 refine call_with hM hI [.ext 0] ((ih _ (by omega)) hr) rfl (by simp) ⟨rfl,trivial⟩ ⟨trivial,trivial⟩ (by simp) ?_
 clear hr
 try cbv
 refine seq_go ?_
 try cbv
 refine loop_inv (T:=Nat×Int×Int) [0,1,4,5,6,7] [.ext 0,.loc 512] 2080 (fun t=>⟨[(0,.v (.c (.ptr (.ext 0) 0))),(1,.v (.d (.list true 15 l1))),(4,.v (.d (.int .i64 z3))),(5,.v (.c (.ptr (.loc 512) 0))),(6,.v (.d (.int .i64 z28))),(7,.v (.d (.int .i64 t.2.1)))],[(.ext 0,.cells [.d (.int .i64 t.2.2)]),(.loc 512,.cells [.d (.int .u8 z8),.d (.str s9),.d (.str s10),.d (.list false 1 l11),.d (.int .u8 z12),.d (.str s13),.d (.list true 3 l14),.d (.int .i64 z15),.d (.str s16),.d (.list false 1 l17),.d (.list true 8 l18),.d (.list true 15 l19),.d (.list true 15 l20),.d (.list true 3 l21),.d (.int .i64 z22)])],2080⟩)
   (fun t=>t.1≤m5∧L71_6 t.1 l1 z3 l21 t.2.1 t.2.2=some r1) (fun t=>t.1) (m5,((0:Int),z45)) ⟨Nat.le_refl _,h⟩ (by cbv) ?_
 clear h
 rintro⟨m6,z46,z47⟩ ⟨hm6,h⟩
 replace hm6:m6≤m5:=hm6
 obtain _ | m6:=m6
 ·replace h:L71_6 0 l1 z3 l21 z46 z47=some r1:=h
  rw[L71_6]at h
  cases h
 replace h:L71_6 (m6+1) l1 z3 l21 z46 z47=some r1:=h
 rw[L71_6]at h
 try cbv
 refine seq_go ?_
 try cbv
 refine seq_join (T:=Nat×Bool) (fun t=>⟨[(0,.v (.c (.ptr (.ext 0) 0))),(1,.v (.d (.list true 15 l1))),(4,.v (.d (.int .i64 z3))),(5,.v (.c (.ptr (.loc 512) 0))),(6,.v (.d (.int .i64 z28))),(7,.v (.d (.int .i64 z46))),(90,.v (.d (.bool t.2)))],[(.ext 0,.cells [.d (.int .i64 z47)]),(.loc 512,.cells [.d (.int .u8 z8),.d (.str s9),.d (.str s10),.d (.list false 1 l11),.d (.int .u8 z12),.d (.str s13),.d (.list true 3 l14),.d (.int .i64 z15),.d (.str s16),.d (.list false 1 l17),.d (.list true 8 l18),.d (.list true 15 l19),.d (.list true 15 l20),.d (.list true 3 l21),.d (.int .i64 z22)])],2464⟩) (fun t=>t.1≤m6∧L71_7 t.1 l1 z3 l21 z46 z47 t.2=some r1) ?_ ?_
 ·try cbv
  replace h:=lenF_inv M h
  obtain⟨z48,hz,h⟩:=h
  refine⟨z48,hz,?_⟩
  clear hz
  try cbv
  refine splitL (fun e=>?_) (fun e=>?_)
  ·replace h:=ite_t e h
   clear e
   try cbv
   refine splitLe (fun e=>?_) (fun e=>?_)
   ·replace h:=ite_t e h
    clear e
    try cbv
    exact join_next (m6,true) [0,1,4,5,6,7,90] [.ext 0,.loc 512] 2464 ⟨by omega,h⟩ (by cbv)
   replace h:=ite_f (Int.not_le.2 e) h
   clear e
   try cbv
   exact join_next (m6,false) [0,1,4,5,6,7,90] [.ext 0,.loc 512] 2464 ⟨by omega,h⟩ (by cbv)
  replace h:=ite_f (Int.not_lt.2 e) h
  clear e
  try cbv
  exact join_next (m6,false) [0,1,4,5,6,7,90] [.ext 0,.loc 512] 2464 ⟨by omega,h⟩ (by cbv)
 clear h
 rintro⟨m7,b49⟩ ⟨hm7,h⟩
 replace hm7:m7≤m6:=hm7
 obtain _ | m7:=m7
 ·replace h:L71_7 0 l1 z3 l21 z46 z47 b49=some r1:=h
  rw[L71_7]at h
  cases h
 replace h:L71_7 (m7+1) l1 z3 l21 z46 z47 b49=some r1:=h
 rw[L71_7]at h
 try cbv
 cases b49
 ·replace h:=ite_f Bool.false_ne_true h
  try cbv
  replace h:=letF_inv h
  obtain⟨z66,hz,h⟩:=h
  refine⟨z66,hz,?_⟩
  clear hz
  try cbv
  exact loop_next (m7,(z66,z47)) [0,1,4] [.ext 0] 32 ⟨by omega,h⟩ (Nat.lt_succ_of_le (by omega)) (by cbv)
 replace h:=ite_t rfl h
 try cbv
 refine seq_go ?_
 try cbv
 refine seq_go ?_
 try cbv
 replace h:=getF_inv h
 obtain⟨x50,⟨hx0,hx⟩,h⟩:=h
 refine⟨x50,hx0,hx,?_⟩
 clear hx0 hx
 replace h:=ds_t154_inv h
 obtain⟨s51,s52,l53,rfl,h⟩:=h
 try cbv
 replace h:=bO1_inv h
 obtain⟨z54,hr,h⟩:=h
 refine call_go rfl rfl ?_
 try cbv
 refine call_with hM hI [.ext 0] (T68 _ hr) rfl (by simp) ⟨rfl,trivial⟩ ⟨trivial,trivial⟩ (by simp) ?_
 clear hr
 try cbv
 refine seq_go ?_
 try cbv
 replace h:=getF_inv h
 obtain⟨x55,⟨hx0,hx⟩,h⟩:=h
 refine⟨x55,hx0,hx,?_⟩
 clear hx0 hx
 replace h:=ds_t154_inv h
 obtain⟨s56,s57,l58,rfl,h⟩:=h
 try cbv
 replace h:=bO1_inv h
 obtain⟨z59,hr,h⟩:=h
 refine call_go rfl rfl ?_
 try cbv
 refine call_with hM hI [.ext 0] (T68 _ hr) rfl (by simp) ⟨rfl,trivial⟩ ⟨trivial,trivial⟩ (by simp) ?_
 clear hr
 try cbv
 replace h:=getF_inv h
 obtain⟨x60,⟨hx0,hx⟩,h⟩:=h
 refine⟨x60,hx0,hx,?_⟩
 clear hx0 hx
 replace h:=ds_t154_inv h
 obtain⟨s61,s62,l63,rfl,h⟩:=h
 try cbv
 replace h:=bO1_inv h
 obtain⟨z64,hr,h⟩:=h
 refine call_go rfl rfl ?_
 try cbv
 refine call_with hM hI [.ext 0] ((ih _ (by omega)) hr) rfl (by simp) ⟨rfl,trivial⟩ ⟨trivial,trivial⟩ (by simp) ?_
 clear hr
 try cbv
 replace h:=letF_inv h
 obtain⟨z65,hz,h⟩:=h
 refine⟨z65,hz,?_⟩
 clear hz
 try cbv
 exact loop_next (m7,(z65,z64)) [0,1,4,5,6,7] [.ext 0,.loc 512] 2080 ⟨by omega,h⟩ (Nat.lt_succ_of_le (by omega)) (by cbv)
end Go.Proofs.Ytiiojajgajnhpaa
end
