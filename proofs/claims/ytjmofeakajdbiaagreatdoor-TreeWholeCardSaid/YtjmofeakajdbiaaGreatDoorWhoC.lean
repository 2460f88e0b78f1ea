/- Part of a proof. No condition. (Part 3.) -/
import Derived.Laws.CopyRow
import Derived.DataReads
import Derived.KernelRfl
import Derived.Shelf.Strings.Fields
import Derived.Shelf.Unicode.Latin
import Derived.Shelf.Unicode.Is16Any
import Derived.Test.YtjmofeakajdbiaaGreatDoorProg
import Derived.Test.YtjmofeakajdbiaaGreatDoorWhoB
set_option linter.unusedVariables false
set_option linter.unusedSimpArgs false
namespace Go.AM
open Go Go.RowKit
def G0 (acc:List Nat):List Edge→Nat
 | []=>0
 | e::r=>match Region.binds .any e with
  | true=>Nat.lor (Nat.lor (2 ^ e.on) (acc.getD e.on 0)) (G0 acc r)
  | false=>G0 acc r
def XM:List Oper→List Nat→List Nat
 | [],acc=>acc
 | o::r,acc=>XM r (acc++[G0 acc o.after.toList])
inductive Ft (ops:List Oper):Nat→Nat→Prop where
 | edge {i j:Nat} {o:Oper} {e:Edge} (hj:ops[j]?=some o) (he:e∈o.after.toList) (hb:Region.binds .any e=true) (hi:e.on=i):Ft ops i j
 | trans {i j k:Nat} (h1:Ft ops i j) (h2:Ft ops j k):Ft ops i k
theorem Mc {ops:List Oper}{acc:List Nat}{j:Nat}{o:Oper}(hj:ops[j]?=some o) (hacc:∀k i,(acc.getD k 0).testBit i=true→Ft ops i k):
  ∀(l:List Edge),(∀e∈l,e∈o.after.toList)→∀i,(G0 acc l).testBit i=true→Ft ops i j
 | [],_,i,h=>by simp[G0]at h
 | e::r,hl,i,h=>by
  have ih:=Mc hj hacc r (fun e he=>hl e (List.mem_cons_of_mem _ he)) i
  unfold G0 at h
  split at h
  ·rename_i hb
   rw[show ∀a b:Nat,Nat.lor a b=a ||| b from fun _ _=>rfl,show ∀a b:Nat,Nat.lor a b=a ||| b from fun _ _=>rfl]at h
   simp only[Nat.testBit_or,Bool.or_eq_true,Nat.testBit_two_pow,decide_eq_true_eq]at h
   rcases h with (h | h) | h
   ·exact .edge hj (hl e (by simp)) hb h
   ·exact .trans (hacc _ i h) (.edge hj (hl e (by simp)) hb rfl)
   ·exact ih h
  ·exact ih h
theorem Od {ops:List Oper}:∀(l:List Oper) (acc:List Nat),ops.drop acc.length=l→(∀k i,(acc.getD k 0).testBit i=true→Ft ops i k)→
  ∀k i,((XM l acc).getD k 0).testBit i=true→Ft ops i k
 | [],acc,_,hacc,k,i,h=>hacc k i h
 | o::r,acc,hl,hacc,k,i,h=>by
  have hj:ops[acc.length]?=some o:=by
   have:=congrArg (fun l=>l[0]?) hl
   simpa using this
  refine Od r (acc++[G0 acc o.after.toList]) ?_ ?_ k i h
  ·have:=congrArg List.tail hl
   simpa using this
  ·intro k i hk
   by_cases h1:k<acc.length
   ·refine hacc k i ?_
    simpa [List.getD,List.getElem?_append_left h1] using hk
   ·by_cases h2:k=acc.length
    ·subst h2
     refine Mc hj hacc o.after.toList (fun e he=>he) i ?_
     simpa [List.getD] using hk
    ·have:(acc++[G0 acc o.after.toList])[k]?=none:=by simp;omega
     simp[List.getD,this]at hk
def tmpsOf:List Operand→List Nat
 | []=>[]
 | .tmp t::r=>t::tmpsOf r
 | _::r=>tmpsOf r
def G1 (ops:Array Oper) (o:Oper):List Nat:=
 tmpsOf o.op.operands.toList++(match o.guard with
  | some (j,_)=>((ops[j]?).bind (·.dst)).toList
  | none=>[])
def meet (a b:List Nat):Bool:=a.any fun x=>b.any fun y=>Nat.beq x y
def R8 (a b:List Id):Bool:=a.any fun x=>b.any fun y=>Id.beq x y
def Ed (ops:Array Oper) (a b:Oper):Bool:=
 meet a.dst.toList (G1 ops b) || meet a.dst.toList b.dst.toList || meet (G1 ops a) b.dst.toList
abbrev Fp:=List Id×List Id
def IU (a b:Fp):Bool:=R8 a.2 b.1 || R8 a.2 b.2 || R8 a.1 b.2
def VE (ops:Array Oper) (ms:List Nat) (l:List (Nat×Oper×Fp)):Bool:=
 l.all fun x=>l.all fun y=>!(Nat.blt x.1 y.1) || !(Ed ops x.2.1 y.2.1 || IU x.2.2 y.2.2) || (ms.getD y.1 0).testBit x.1
def QG:List Oper→Nat→Bool
 | [],_=>true
 | o::r,i=>o.after.toList.all (fun e=>!(Region.binds .any e) || Nat.blt e.on i)&&QG r (i+1)
def number:List Oper→List Fp→Nat→List (Nat×Oper×Fp)
 | o::r,f::fs,i=>(i,o,f)::number r fs (i+1)
 | _,_,_=>[]
def XN (ops:Array Oper) (fps:List Fp):Bool:=
 Nat.beq fps.length ops.size&&(QG ops.toList 0&&VE ops (XM ops.toList []) (number ops.toList fps 0))
def Dz (M:BO) (ti:Types) (nt:Nat) (ops:Array Oper) (base:Nat):List Oper→Nat→St→List Fp→(St→List Fp→Prop)→Prop
 | [],i,σ,fps,K=>K ⟨σ.slots,σ.heap,base+32*i⟩ fps
 | o::r,i,σ,fps,K=>guarded ops o σ
   (fun σ1=>E6 o<| GY nt o.dst<| EN M ti o (base+32*i) (Ab σ1.slots) (AX σ1.heap) fun out=>
    Dz M ti nt ops base r (i+1) ⟨D9 σ1.slots o.dst out.val,Ez σ1.heap out.wr,σ1.next⟩ (fps++[(out.rd,out.wr.map (·.1))]) K)
   (fun σ1=>GY nt o.dst (Dz M ti nt ops base r (i+1) ⟨D9 σ1.slots o.dst (.t []),σ1.heap,σ1.next⟩ (fps++[([],[])]) K))
def Bh (ti:Types) (M:BO) (nt:Nat) (ops:Array Oper) (σ:St) (K:St→Prop):Prop:=
 Dz M ti nt ops σ.next ops.toList 0 σ [] fun σ' fps=>M.lock (fun _=>XN ops fps=true)∧K σ'
structure Ln where
 o:Oper
 run:Bool
 val:AV
 rd:List Id
 wr:List (Id×AH)
def DV (ops:Array Oper) (e:Ln) (s:AR):Prop:=
 match e.o.guard with
 | none=>e.run=true
 | some (j,want)=>∃d,(ops[j]?).bind (·.dst)=some d∧(s d= .v (.d (.bool (if e.run then want else !want)))∨(e.run=false∧s d= .t []))
def R9 (C:Cx) (ops:Array Oper) (base:Nat):List Ln→Nat→AR→Heap→Prop
 | [],_,_,_=>True
 | e::r,i,s,h=>ops[i]?=some e.o∧(∀d,e.o.dst=some d→d<C.nt)∧DV ops e s∧(e.run=true→(∀c,e.o.op≠ .defer c)∧Bk C e.o (base+32*i) s h ⟨e.val,e.rd,e.wr⟩)∧
   (e.run=false→e.val= .t []∧e.wr=[]∧e.rd=[])∧R9 C ops base r (i+1) (Dg s e.o.dst e.val) (BJ h e.wr)
def UN:List Ln→AR→AR
 | [],s=>s
 | e::r,s=>UN r (Dg s e.o.dst e.val)
def UO:List Ln→Heap→Heap
 | [],h=>h
 | e::r,h=>UO r (BJ h e.wr)
section
variable {C:Cx}{ti:Types}
theorem F7 (hti:BN C.P ti) (h1:Bu ti) {ops:Array Oper}{base:Nat}{K:St→List Fp→Prop}:∀(l:List Oper) (i:Nat) (σ:St) (fps:List Fp),
  ops.toList.drop i=l→Dz C.M ti C.nt ops base l i σ fps K→
  ∃(es:List Ln) (σ':St),es.map (·.o)=l∧R9 C ops base es i (Ab σ.slots) (AX σ.heap)∧Ab σ'.slots=UN es (Ab σ.slots)∧AX σ'.heap=UO es (AX σ.heap)∧
   σ'.next=base+32*(i+l.length)∧K σ' (fps++es.map fun e=>(e.rd,e.wr.map (·.1)))
 | [],i,σ,fps,_,hk=>⟨[],⟨σ.slots,σ.heap,base+32*i⟩,rfl,trivial,rfl,rfl,by simp,by simpa using (show K ⟨σ.slots,σ.heap,base+32*i⟩ fps from hk)⟩
 | o::r,i,σ,fps,hl,hk=>by
  have hi:ops[i]?=some o:=by
   have:=congrArg (fun l=>l[0]?) hl
   simpa using this
  have hr:ops.toList.drop (i+1)=r:=by
   have:=congrArg List.tail hl
   simpa using this
  have run:∀(g:DV ops ⟨o,true,.u,[],[]⟩ (Ab σ.slots)),(E6 o<| GY C.nt o.dst<| EN C.M ti o (base+32*i) (Ab σ.slots) (AX σ.heap) fun out=>
    Dz C.M ti C.nt ops base r (i+1) ⟨D9 σ.slots o.dst out.val,Ez σ.heap out.wr,σ.next⟩ (fps++[(out.rd,out.wr.map (·.1))]) K)→
    ∃(es:List Ln) (σ':St),es.map (·.o)=o::r∧R9 C ops base es i (Ab σ.slots) (AX σ.heap)∧Ab σ'.slots=UN es (Ab σ.slots)∧AX σ'.heap=UO es (AX σ.heap)∧
     σ'.next=base+32*(i+(o::r).length)∧K σ' (fps++es.map fun e=>(e.rd,e.wr.map (·.1))):=by
   intro g hk
   obtain⟨hst,hnd,hk⟩:=Ks hk
   obtain⟨hd,hk⟩:=He.1 hk
   obtain⟨out,hk,hok⟩:=Gy hti h1 hst.1 hst.2 hk
   obtain⟨es,σ',e1,e2,e3,e4,e5,e6⟩:=F7 hti h1 r (i+1) _ _ hr hk
   rw[DL]at e2 e3
   rw[EX]at e2 e4
   refine⟨⟨o,true,out.val,out.rd,out.wr⟩::es,σ',by simp[e1],⟨hi,hd,g,fun _=>⟨hnd,hok⟩,fun e=>by simp at e,e2⟩,e3,e4,by rw[e5];simp;omega,?_⟩
   simpa using e6
  have skip:∀(g:DV ops ⟨o,false,.t [],[],[]⟩ (Ab σ.slots)),(GY C.nt o.dst (Dz C.M ti C.nt ops base r (i+1) ⟨D9 σ.slots o.dst (.t []),σ.heap,σ.next⟩ (fps++[([],[])]) K))→
    ∃(es:List Ln) (σ':St),es.map (·.o)=o::r∧R9 C ops base es i (Ab σ.slots) (AX σ.heap)∧Ab σ'.slots=UN es (Ab σ.slots)∧AX σ'.heap=UO es (AX σ.heap)∧
     σ'.next=base+32*(i+(o::r).length)∧K σ' (fps++es.map fun e=>(e.rd,e.wr.map (·.1))):=by
   intro g hk
   obtain⟨hd,hk⟩:=He.1 hk
   obtain⟨es,σ',e1,e2,e3,e4,e5,e6⟩:=F7 hti h1 r (i+1) _ _ hr hk
   rw[DL]at e2 e3
   refine⟨⟨o,false,.t [],[],[]⟩::es,σ',by simp[e1],⟨hi,hd,g,fun e=>by simp at e,fun _=>⟨rfl,rfl,rfl⟩,e2⟩,e3,e4,by rw[e5];simp;omega,?_⟩
   simpa using e6
  have hk':guarded ops o σ _ _:=hk
  unfold guarded at hk'
  split at hk'
  ·rename_i hg
   exact run (by simp[DV,hg]) hk'
  ·rename_i j want hg
   split at hk'
   ·exact hk'.elim
   ·rename_i d hd
    split at hk'
    ·rename_i c hc
     cases want<;>cases c
     ·exact run (by simp only[DV,hg];exact⟨d,hd,.inl hc⟩) hk'
     ·exact skip (by simp only[DV,hg];exact⟨d,hd,.inl hc⟩) hk'
     ·exact skip (by simp only[DV,hg];exact⟨d,hd,.inl hc⟩) hk'
     ·exact run (by simp only[DV,hg];exact⟨d,hd,.inl hc⟩) hk'
    ·rename_i hc
     exact skip (by simp only[DV,hg];exact⟨d,hd,.inr ⟨trivial,hc⟩⟩) hk'
    ·exact hk'.elim
def DW (S:Nat→Bool):List Ln→Nat→AR→AR
 | [],_,s=>s
 | e::r,i,s=>DW S r (i+1) (if S i then Dg s e.o.dst e.val else s)
def CE (S:Nat→Bool):List Ln→Nat→Heap→Heap
 | [],_,h=>h
 | e::r,i,h=>CE S r (i+1) (if S i then BJ h e.wr else h)
theorem Y6 {s s':AR}{d:Option Tmp}{v:AV}{t:Nat}(h:d≠some t→s t=s' t):Dg s d v t=Dg s' d v t:=by
 cases d with
 | none=>exact h (by simp)
 | some d=>
  simp only[Dg]
  by_cases ht:t=d
  ·simp[ht]
  ·simp only[if_neg ht];exact h (by simp;exact fun e=>ht e.symm)
theorem I8 {s:AR}{d:Option Tmp}{v:AV}{t:Nat}(h:d≠some t):Dg s d v t=s t:=by
 cases d with
 | none=>rfl
 | some d=>
  simp only[Dg]
  rw[if_neg]
  exact fun e=>h (by rw[e])
theorem VF {h h':Heap}{i:Id}:∀{wr:List (Id×AH)},(i∉wr.map (·.1)→h i=h' i)→BJ h wr i=BJ h' wr i:=by
 intro wr
 induction wr generalizing h h' with
 | nil=>intro hh;exact hh (by simp)
 | cons x wr ih=>
  intro hh
  refine ih fun hn=>?_
  simp only[AO]
  by_cases hi:i=x.1
  ·simp[hi]
  ·simp only[if_neg hi]
   exact hh (by simp[hi];simpa using hn)
theorem GA {S S':Nat→Bool}{t:Nat}:∀(es:List Ln) (i:Nat) (s s':AR),s t=s' t→(∀k e,es[k]?=some e→e.o.dst=some t→S (i+k)=S' (i+k))→
  DW S es i s t=DW S' es i s' t
 | [],i,s,s',h,_=>h
 | e::r,i,s,s',h,hw=>by
  refine GA r (i+1) _ _ ?_ (fun k e' hk hd=>by have:=hw (k+1) e' (by simpa using hk) hd;rw[show i+1+k=i+(k+1)from by omega];exact this)
  by_cases hd:e.o.dst=some t
  ·have:=hw 0 e rfl hd
   simp only[Nat.add_zero]at this
   rw[this]
   cases S' i
   ·exact h
   ·exact Y6 (fun _=>h)
  ·cases S i<;>cases S' i<;>simp[I8 hd,h]
theorem E7 {S S':Nat→Bool}{x:Id}:∀(es:List Ln) (i:Nat) (h h':Heap),h x=h' x→(∀k e,es[k]?=some e→x∈e.wr.map (·.1)→S (i+k)=S' (i+k))→
  CE S es i h x=CE S' es i h' x
 | [],i,h,h',hh,_=>hh
 | e::r,i,h,h',hh,hw=>by
  refine E7 r (i+1) _ _ ?_ (fun k e' hk hd=>by have:=hw (k+1) e' (by simpa using hk) hd;rw[show i+1+k=i+(k+1)from by omega];exact this)
  by_cases hd:x∈e.wr.map (·.1)
  ·have:=hw 0 e rfl hd
   simp only[Nat.add_zero]at this
   rw[this]
   cases S' i
   ·exact hh
   ·exact VF (fun _=>hh)
  ·have e1:BJ h e.wr x=h x:=DH hd
   have e2:BJ h' e.wr x=h' x:=DH hd
   cases S i<;>cases S' i<;>simp[e1,e2,hh]
theorem SA {S S':Nat→Bool}{t:Nat}{n:Nat}{en:Ln}:∀(es:List Ln) (i:Nat) (s:AR),es[n]?=some en→S (i+n)=false→S' (i+n)=true→(∀k,k≠i+n→S' k=S k)→
  (en.o.dst=some t→∀k e,es[k]?=some e→e.o.dst=some t→n<k→S (i+k)=false)→DW S' es i s t=Dg (DW S es i s) en.o.dst en.val t
 | [],i,s,hn,_,_,_,_=>by simp at hn
 | e::r,i,s,hn,h0,h1,hS,hb=>by
  cases n with
  | zero=>
   simp at hn
   subst hn
   simp only[Nat.add_zero]at h0 h1
   show DW S' r (i+1) (if S' i then Dg s e.o.dst e.val else s) t=Dg (DW S r (i+1) (if S i then Dg s e.o.dst e.val else s)) e.o.dst e.val t
   rw[h0,h1]
   simp only[if_true,Bool.false_eq_true,if_false]
   have same:∀s',DW S' r (i+1) s' t=DW S r (i+1) s' t:=fun s'=>GA r (i+1) s' s' rfl (fun k e' _ _=>hS _ (by omega))
   rw[same]
   by_cases hd:e.o.dst=some t
   ·have none:∀s':AR,DW S r (i+1) s' t=s' t:=by
     intro s'
     have z:∀(l:List Ln) (m:Nat) (s':AR),(∀k e,l[k]?=some e→e.o.dst=some t→S (m+k)=false)→DW S l m s' t=s' t:=by
      intro l
      induction l with
      | nil=>intro m s' _;rfl
      | cons e l ih=>
       intro m s' hz
       show DW S l (m+1) (if S m then Dg s' e.o.dst e.val else s') t=_
       rw[ih (m+1) _ (fun k e' hk hd=>by have:=hz (k+1) e' (by simpa using hk) hd;rw[show m+1+k=m+(k+1)from by omega];exact this)]
       by_cases hd:e.o.dst=some t
       ·have:=hz 0 e rfl hd
        simp only[Nat.add_zero]at this
        simp[this]
       ·split
        ·exact I8 hd
        ·rfl
     exact z r (i+1) s' (fun k e' hk hd'=>by
      have:=hb hd (k+1) e' (by simpa using hk) hd' (by omega)
      rw[show i+1+k=i+(k+1)from by omega];exact this)
    rw[none,hd]
    simp[Dg]
   ·rw[I8 hd]
    exact GA r (i+1) _ _ (I8 hd) (fun _ _ _ _=>rfl)
  | succ n=>
   have e1:S' i=S i:=hS i (by omega)
   show DW S' r (i+1) (if S' i then Dg s e.o.dst e.val else s) t=_
   rw[e1]
   refine SA r (i+1) _ (by simpa using hn) (by rw[show i+1+n=i+(n+1)from by omega];exact h0) (by rw[show i+1+n=i+(n+1)from by omega];exact h1)
    (fun k hk=>hS k (by omega)) (fun hd k e' hk hd' hlt=>?_)
   have:=hb hd (k+1) e' (by simpa using hk) hd' (by omega)
   rw[show i+1+k=i+(k+1)from by omega];exact this
theorem Oe {S S':Nat→Bool}{x:Id}{n:Nat}{en:Ln}:∀(es:List Ln) (i:Nat) (s:Heap),es[n]?=some en→S (i+n)=false→S' (i+n)=true→(∀k,k≠i+n→S' k=S k)→
  (x∈en.wr.map (·.1)→∀k e,es[k]?=some e→x∈e.wr.map (·.1)→n<k→S (i+k)=false)→CE S' es i s x=BJ (CE S es i s) en.wr x
 | [],i,s,hn,_,_,_,_=>by simp at hn
 | e::r,i,s,hn,h0,h1,hS,hb=>by
  cases n with
  | zero=>
   simp at hn
   subst hn
   simp only[Nat.add_zero]at h0 h1
   show CE S' r (i+1) (if S' i then BJ s e.wr else s) x=BJ (CE S r (i+1) (if S i then BJ s e.wr else s)) e.wr x
   rw[h0,h1]
   simp only[if_true,Bool.false_eq_true,if_false]
   have same:∀s',CE S' r (i+1) s' x=CE S r (i+1) s' x:=fun s'=>E7 r (i+1) s' s' rfl (fun k e' _ _=>hS _ (by omega))
   rw[same]
   by_cases hd:x∈e.wr.map (·.1)
   ·have none:∀s':Heap,CE S r (i+1) s' x=s' x:=by
     intro s'
     have z:∀(l:List Ln) (m:Nat) (s':Heap),(∀k e,l[k]?=some e→x∈e.wr.map (·.1)→S (m+k)=false)→CE S l m s' x=s' x:=by
      intro l
      induction l with
      | nil=>intro m s' _;rfl
      | cons e l ih=>
       intro m s' hz
       show CE S l (m+1) (if S m then BJ s' e.wr else s') x=_
       rw[ih (m+1) _ (fun k e' hk hd=>by have:=hz (k+1) e' (by simpa using hk) hd;rw[show m+1+k=m+(k+1)from by omega];exact this)]
       by_cases hd:x∈e.wr.map (·.1)
       ·have:=hz 0 e rfl hd
        simp only[Nat.add_zero]at this
        simp[this]
       ·split
        ·exact DH hd
        ·rfl
     exact z r (i+1) s' (fun k e' hk hd'=>by
      have:=hb hd (k+1) e' (by simpa using hk) hd' (by omega)
      rw[show i+1+k=i+(k+1)from by omega];exact this)
    rw[none]
    exact VF (fun hn=>absurd hd hn)
   ·rw[DH hd]
    exact E7 r (i+1) _ _ (DH hd) (fun _ _ _ _=>rfl)
  | succ n=>
   have e1:S' i=S i:=hS i (by omega)
   show CE S' r (i+1) (if S' i then BJ s e.wr else s) x=_
   rw[e1]
   refine Oe r (i+1) _ (by simpa using hn) (by rw[show i+1+n=i+(n+1)from by omega];exact h0) (by rw[show i+1+n=i+(n+1)from by omega];exact h1)
    (fun k hk=>hS k (by omega)) (fun hd k e' hk hd' hlt=>?_)
   have:=hb hd (k+1) e' (by simpa using hk) hd' (by omega)
   rw[show i+1+k=i+(k+1)from by omega];exact this
end
end Go.AM
namespace Go.AM
open Go Go.RowKit
section
variable {C:Cx}{ti:Types}
theorem KF {S:Nat→Bool}:∀(es:List Ln) (i:Nat) (s:AR),(∀k,i≤k→S k=false)→DW S es i s=s
 | [],_,_,_=>rfl
 | e::r,i,s,h=>by
  show DW S r (i+1) (if S i then _ else s)=s
  rw[h i (Nat.le_refl _)]
  exact KF r (i+1) s (fun k hk=>h k (by omega))
theorem IV {S:Nat→Bool}:∀(es:List Ln) (i:Nat) (s:Heap),(∀k,i≤k→S k=false)→CE S es i s=s
 | [],_,_,_=>rfl
 | e::r,i,s,h=>by
  show CE S r (i+1) (if S i then _ else s)=s
  rw[h i (Nat.le_refl _)]
  exact IV r (i+1) s (fun k hk=>h k (by omega))
theorem SB {S:Nat→Bool}:∀(es:List Ln) (i:Nat) (s:AR),(∀k,k<es.length→S (i+k)=true)→DW S es i s=UN es s
 | [],_,_,_=>rfl
 | e::r,i,s,h=>by
  show DW S r (i+1) (if S i then _ else s)=UN r _
  rw[show S i=true from h 0 (by simp)]
  exact SB r (i+1) _ (fun k hk=>by have:=h (k+1) (by simp;omega);rw[show i+1+k=i+(k+1)from by omega];exact this)
theorem Og {S:Nat→Bool}:∀(es:List Ln) (i:Nat) (s:Heap),(∀k,k<es.length→S (i+k)=true)→CE S es i s=UO es s
 | [],_,_,_=>rfl
 | e::r,i,s,h=>by
  show CE S r (i+1) (if S i then _ else s)=UO r _
  rw[show S i=true from h 0 (by simp)]
  exact Og r (i+1) _ (fun k hk=>by have:=h (k+1) (by simp;omega);rw[show i+1+k=i+(k+1)from by omega];exact this)
def iH (C:Cx) (ops:Array Oper) (base:Nat) (e:Ln) (i:Nat) (s:AR) (h:Heap):Prop:=
 ops[i]?=some e.o∧(∀d,e.o.dst=some d→d<C.nt)∧DV ops e s∧(e.run=true→(∀c,e.o.op≠ .defer c)∧Bk C e.o (base+32*i) s h ⟨e.val,e.rd,e.wr⟩)∧
   (e.run=false→e.val= .t []∧e.wr=[]∧e.rd=[])
theorem iI {ops:Array Oper}{base:Nat}(es:List Ln):∀(m n:Nat) (s:AR) (h:Heap) (e:Ln),R9 C ops base es m s h→es[n]?=some e→
  iH C ops base e (m+n) (DW (fun k=>decide (k<m+n)) es m s) (CE (fun k=>decide (k<m+n)) es m h):=by
 induction es with
 | nil=>intro m n s h e _ hn;simp at hn
 | cons x r ih=>
  intro m n s h e hl hn
  cases n with
  | zero=>
   simp at hn
   subst hn
   have e1:DW (fun k=>decide (k<m+0)) (x::r) m s=s:=KF _ _ _ (fun k hk=>by simp;omega)
   have e2:CE (fun k=>decide (k<m+0)) (x::r) m h=h:=IV _ _ _ (fun k hk=>by simp;omega)
   rw[e1,e2]
   exact⟨hl.1,hl.2.1,hl.2.2.1,hl.2.2.2.1,hl.2.2.2.2.1⟩
  | succ n=>
   have:=ih (m+1) n _ _ e hl.2.2.2.2.2 (by simpa using hn)
   rw[show m+1+n=m+(n+1)from by omega]at this
   have e1:DW (fun k=>decide (k<m+(n+1))) (x::r) m s=DW (fun k=>decide (k<m+(n+1))) r (m+1) (Dg s x.o.dst x.val):=by
    show DW _ r (m+1) (if decide (m<m+(n+1))then _ else _)=_
    rw[if_pos (by simp)]
   have e2:CE (fun k=>decide (k<m+(n+1))) (x::r) m h=CE (fun k=>decide (k<m+(n+1))) r (m+1) (BJ h x.wr):=by
    show CE _ r (m+1) (if decide (m<m+(n+1))then _ else _)=_
    rw[if_pos (by simp)]
   rw[e1,e2]
   exact this
theorem Ac.drew {F:Nat→Prop}{s:AR}{h:Heap}{g:AW}{a:Act}{w:World}(R:Ac C F s h g a w):Ac C F s h g a {w with drawn:=w.drawn+1}:=by
 have E:Jy w (BG (zone g h) C.X) g h {w with drawn:=w.drawn+1} (BG (zone g h) C.X) g h:=
  ⟨fun b o u hu hz=>⟨hu,hz⟩,fun _ _ _=>rfl,fun _ _ _=>rfl,fun _ hi=>hi,fun i n sz e _ hn=>⟨n,Nat.le_refl _,hn,fun _=>rfl⟩,fun _ hi=>hi,fun i _ hn=>⟨hn,rfl⟩⟩
 refine R.step (fun _=>False) E ⟨rfl,rfl,rfl,Nat.le_refl _,fun _ _ _=>rfl,fun _ _ _ hu _=>hu⟩ (fun _ _=>⟨rfl,rfl⟩) (fun _ _ _ _ _ _=>rfl) (fun _ _ h=>h.elim) (fun _ _ _ _ h=>h.elim)
  (fun _ _ _ _ _ h=>h.elim) (fun _ h=>h.elim) R.free
theorem filter_one {p p':Nat→Bool}{i:Nat}:∀{l:List Nat},l.Nodup→i∈l→p i=true→p' i=false→(∀k,k≠i→p' k=p k)→(l.filter p').length+1=(l.filter p).length
 | x::l,hn,hi,h1,h0,hs=>by
  have hn':=List.nodup_cons.1 hn
  by_cases hx:x=i
  ·subst hx
   have:l.filter p'=l.filter p:=List.filter_congr fun k hk=>hs k (fun e=>hn'.1 (e▸hk))
   simp[h1,h0,this]
  ·have hil:i∈l:=(List.mem_cons.1 hi).resolve_left (fun e=>hx e.symm)
   have ih:=filter_one hn'.2 hil h1 h0 hs
   have:=hs x hx
   simp only[List.filter_cons,this]
   split<;>simp[ih]
theorem Md {a b:List Nat}{x:Nat}(ha:x∈a) (hb:x∈b):meet a b=true:=by
 simp only[meet,List.any_eq_true]
 exact⟨x,ha,x,hb,by simp⟩
theorem KG {a b:List Id}{x:Id}(ha:x∈a) (hb:x∈b):R8 a b=true:=by
 simp only[R8,List.any_eq_true]
 exact⟨x,ha,x,hb,Id.beq_iff.2 rfl⟩
theorem Ee {t:Nat}:∀{l:List Operand},Operand.tmp t∈l→t∈tmpsOf l
 | .tmp x::l,h=>by
  rcases List.mem_cons.1 h with h | h
  ·simp at h;subst h;simp[tmpsOf]
  ·simp[tmpsOf,Ee h]
 | .const v::l,h=>by simp[tmpsOf,Ee ((List.mem_cons.1 h).resolve_left (by simp))]
 | .global v::l,h=>by simp[tmpsOf,Ee ((List.mem_cons.1 h).resolve_left (by simp))]
 | .func v::l,h=>by simp[tmpsOf,Ee ((List.mem_cons.1 h).resolve_left (by simp))]
theorem Me (l:List Oper):∀(fs:List Fp) (i n:Nat) (o:Oper) (f:Fp),l[n]?=some o→fs[n]?=some f→(i+n,o,f)∈number l fs i:=by
 induction l with
 | nil=>intro fs i n o f h1 _;simp at h1
 | cons x l ih=>
  intro fs i n o f h1 h2
  cases fs with
  | nil=>simp at h2
  | cons y fs=>
   cases n with
   | zero=>simp at h1 h2;subst h1;subst h2;simp[number]
   | succ n=>
    simp at h1 h2
    have:=ih fs (i+1) n o f h1 h2
    rw[show i+1+n=i+(n+1)from by omega]at this
    simp[number,this]
theorem UP (l:List Oper):∀(i n:Nat) (o:Oper) (e:Edge),QG l i=true→l[n]?=some o→e∈o.after.toList→Region.binds .any e=true→e.on<i+n:=by
 induction l with
 | nil=>intro i n o e _ h1 _ _;simp at h1
 | cons x l ih=>
  intro i n o e h h1 he hb
  simp only[QG,Bool.and_eq_true,List.all_eq_true]at h
  cases n with
  | zero=>
   simp at h1
   subst h1
   have:=h.1 e he
   simpa [hb] using this
  | succ n=>
   simp at h1
   have:=ih (i+1) n o e h.2 h1 he hb
   omega
theorem Y7 (hti:BN C.P ti) (h1:Bu ti) (hm:C.P.follows .mixedOrders=true):KD C (Bh ti C.M C.nt):=by
 intro id ops σ K Q a w hQ hk R
 obtain⟨es,σ',e1,hlex,e3,e4,e5,hlock,hK⟩:=F7 hti h1 ops.toList 0 σ [] rfl hk
 have hB:=(C.M.lock_iff _).1 hlock
 simp only[List.nil_append]at hB
 simp only[XN,Bool.and_eq_true,Nat.beq_eq]at hB
 obtain⟨hlen,hback,hpairs⟩:=hB
 have hlen:es.length=ops.size:=by simpa using congrArg List.length e1
 have hes:∀(n:Nat) e,es[n]?=some e→ops.toList[n]?=some e.o:=by
  intro n e he
  rw[←e1];simp[he]
 have ahead:∀(i j:Nat) ei ej,es[i]?=some ei→es[j]?=some ej→i<j→(Ed ops ei.o ej.o || IU (ei.rd,ei.wr.map (·.1)) (ej.rd,ej.wr.map (·.1)))=true→Ft ops.toList i j:=by
  intro i j ei ej hi hj hlt hc
  have m1:=Me ops.toList (es.map fun e=>(e.rd,e.wr.map (·.1))) 0 i _ _ (hes i ei hi) (by simp[hi];rfl)
  have m2:=Me ops.toList (es.map fun e=>(e.rd,e.wr.map (·.1))) 0 j _ _ (hes j ej hj) (by simp[hj];rfl)
  simp only[VE,List.all_eq_true]at hpairs
  have:=hpairs _ m1 _ m2
  simp only[Nat.zero_add]at this
  have hb:Nat.blt i j=true:=by simpa using hlt
  rw[hb,hc]at this
  simp only[Bool.not_true,Bool.false_or]at this
  exact Od ops.toList [] rfl (by simp[List.getD]) j i this
 let s0:=Ab σ.slots
 let h0:=AX σ.heap
 let base:=σ.next
 refine wpIn_region_any hm ?_
 let Sof:Array Bool→Nat→Bool:=fun listed k=>listed.getD k false
 have main:∀(fuel:Nat) (listed:Array Bool) (a:Act) (w:World),listed.size=ops.size→
   ((List.range ops.size).filter (fun k=>!Sof listed k)).length=fuel→
   (∀i j,Ft ops.toList i j→Sof listed j=true→Sof listed i=true)→
   Rel C (fun n=>base≤n∧∀i,Sof listed i=true→¬(base+32*i≤n∧n<base+32*i+32)) (DW (Sof listed) es 0 s0) (CE (Sof listed) es 0 h0) a w→
   wpAnyIn (Bg C.ro) 0 C.P .any ops Q fuel listed a w:=by
  intro fuel
  induction fuel with
  | zero=>
   intro listed a w hsz hcnt hcl R
   have hall:∀k,k<ops.size→Sof listed k=true:=by
    intro k hk
    have:=List.eq_nil_of_length_eq_zero hcnt
    cases hs:Sof listed k with
    | true=>rfl
    | false=>
     have:k∈(List.range ops.size).filter (fun k=>!Sof listed k):=by simp[hk,hs]
     rw[List.eq_nil_of_length_eq_zero hcnt]at this
     simp at this
   refine⟨?_,?_⟩
   ·cases hr:Region.ready .any ops listed with
    | nil=>rfl
    | cons j l=>
     have hj:j∈Region.ready .any ops listed:=by rw[hr];simp
     obtain⟨h2,o,ho,_⟩:=mem_ready.1 hj
     have hlt:=(Array.getElem?_eq_some_iff.1 ho).1
     have:=hall j hlt
     simp only[Sof]at this
     have hjl:j<listed.size:=by omega
     simp[hjl]at this h2
     rw[this]at h2
     simp at h2
   ·refine hQ σ' a w hK ?_
    have:CL C σ' a w↔Rel C (fun n=>σ'.next≤n) (Ab σ'.slots) (AX σ'.heap) a w:=Iff.rfl
    rw[this,e3,e4,e5]
    have z1:DW (Sof listed) es 0 s0=UN es s0:=SB es 0 s0 (fun k hk=>by rw[Nat.zero_add];exact hall k (by omega))
    have z2:CE (Sof listed) es 0 h0=UO es h0:=Og es 0 h0 (fun k hk=>by rw[Nat.zero_add];exact hall k (by omega))
    rw[z1,z2]at R
    refine R.A0 (fun n hn=>?_)
    simp only[Nat.zero_add,Array.length_toList]at hn
    refine⟨by simp only[base];omega,fun i hi=>?_⟩
    have:i<ops.size:=by
     simp only[Sof]at hi
     have hil:i<listed.size:=by
      rcases Nat.lt_or_ge i listed.size with h | h
      ·exact h
      ·simp[Array.getElem?_eq_none h]at hi
     omega
    simp only[base]
    omega
  | succ fuel ih=>
   intro listed a w hsz hcnt hcl R
   have hstep:∀i,i∈Region.ready .any ops listed→wpOpIn (Bg C.ro) 0 C.P ops Q i (wpAnyIn (Bg C.ro) 0 C.P .any ops Q fuel (listed.setIfInBounds i true)) a w:=by
    intro i hi
    obtain⟨hi0,o,ho,hedges⟩:=mem_ready.1 hi
    have hlt:i<ops.size:=(Array.getElem?_eq_some_iff.1 ho).1
    have hil:i<listed.size:=by omega
    have hS0:Sof listed i=false:=by
     simp[hil]at hi0
     simp[Sof,hil,hi0]
    have hS1:Sof (listed.setIfInBounds i true) i=true:=by simp[Sof,hil]
    have hSo:∀k,k≠i→Sof (listed.setIfInBounds i true) k=Sof listed k:=by
     intro k hk
     simp[Sof,Array.getElem?_setIfInBounds_ne (Ne.symm hk)]
    obtain⟨en,hen⟩:∃en,es[i]?=some en:=⟨es[i],by simp[hlen,hlt]⟩
    have hEnt:=iI es 0 i s0 h0 en hlex hen
    rw[Nat.zero_add]at hEnt
    obtain⟨ho',hd,hg,hrun,hskip⟩:=hEnt
    rw[ho]at ho'
    obtain rfl:o=en.o:=by simpa using ho'
    -- who writes what i reads or writes
    have order:∀k e,es[k]?=some e→k≠i→(k<i→(Ed ops e.o en.o || IU (e.rd,e.wr.map (·.1)) (en.rd,en.wr.map (·.1)))=true)→
      (i<k→(Ed ops en.o e.o || IU (en.rd,en.wr.map (·.1)) (e.rd,e.wr.map (·.1)))=true)→Sof listed k=decide (k<i):=by
     intro k e he hne c1 c2
     by_cases hki:k<i
     ·have ah:=ahead k i e en he hen hki (c1 hki)
      have:Sof listed k=true:=by
       have gen:∀x y,Ft ops.toList x y→y=i→Sof listed x=true:=by
        intro x y hxy
        induction hxy with
        | edge hj hee hb hei=>
         intro hy
         subst hy
         rw[←hei]
         have:=hes _ en hen
         rw[hj]at this
         simp at this
         subst this
         exact hedges _ (by simpa using hee) hb
        | trans p q ihp ihq=>
         intro hy
         exact hcl _ _ p (ihq hy)
       exact gen k i ah rfl
      simp[this,hki]
     ·have hik:i<k:=by omega
      have ah:=ahead i k en e hen he hik (c2 hik)
      have:Sof listed k=false:=by
       cases hs:Sof listed k with
       | false=>rfl
       | true=>have:=hcl i k ah hs;rw[hS0]at this;simp at this
      simp[this,hki]
    have slotAgree:∀t,t∈G1 ops en.o→DW (Sof listed) es 0 s0 t=DW (fun k=>decide (k<i)) es 0 s0 t:=by
     intro t ht
     refine GA es 0 s0 s0 rfl (fun k e he hdst=>?_)
     rw[Nat.zero_add]
     by_cases hki:k=i
     ·subst hki;simp[hS0]
     ·refine order k e he hki (fun _=>?_) (fun _=>?_)
      ·simp[Ed,Md (x:=t) (a:=e.o.dst.toList) (b:=G1 ops en.o) (by simp[hdst]) ht]
      ·simp[Ed,Md (x:=t) (a:=G1 ops en.o) (b:=e.o.dst.toList) ht (by simp[hdst])]
    have idAgree:∀x,x∈en.rd→CE (Sof listed) es 0 h0 x=CE (fun k=>decide (k<i)) es 0 h0 x:=by
     intro x hx
     refine E7 es 0 h0 h0 rfl (fun k e he hw=>?_)
     rw[Nat.zero_add]
     by_cases hki:k=i
     ·subst hki;simp[hS0]
     ·refine order k e he hki (fun _=>?_) (fun _=>?_)
      ·simp[IU,KG (x:=x) (a:=e.wr.map (·.1)) (b:=en.rd) hw hx]
      ·simp[IU,KG (x:=x) (a:=en.rd) (b:=e.wr.map (·.1)) hx hw]
    have cl':∀x y,Ft ops.toList x y→Sof (listed.setIfInBounds i true) y=true→Sof (listed.setIfInBounds i true) x=true:=by
     intro x y hxy hy
     by_cases hx:x=i
     ·rw[hx];exact hS1
     ·rw[hSo x hx]
      by_cases hyi:y=i
      ·subst hyi
       have gen:∀x y',Ft ops.toList x y'→y'=y→Sof listed x=true:=by
        intro x y' hxy
        induction hxy with
        | edge hj hee hb hei=>
         intro hy
         subst hy
         rw[←hei]
         have:=hes _ en hen
         rw[hj]at this
         simp at this
         subst this
         exact hedges _ (by simpa using hee) hb
        | trans p q ihp ihq=>
         intro hy
         exact hcl _ _ p (ihq hy)
       exact gen x y hxy rfl
      ·rw[hSo y hyi]at hy
       exact hcl x y hxy hy
    have cnt':((List.range ops.size).filter (fun k=>!Sof (listed.setIfInBounds i true) k)).length=fuel:=by
     have:=filter_one (p:=fun k=>!Sof listed k) (p':=fun k=>!Sof (listed.setIfInBounds i true) k) (i:=i) (l:=List.range ops.size) List.nodup_range (by simp[hlt]) (by simp[hS0]) (by simp[hS1])
      (fun k hk=>by simp[hSo k hk])
     omega
    have addS:DW (Sof (listed.setIfInBounds i true)) es 0 s0=Dg (DW (Sof listed) es 0 s0) en.o.dst en.val:=by
     funext t
     refine SA es 0 s0 hen (by simpa using hS0) (by simpa using hS1) (fun k hk=>hSo k (by omega)) (fun hdst k e he hdst' hik=>?_)
     rw[Nat.zero_add]
     have:=order k e he (by omega) (fun h=>absurd h (by omega)) (fun _=>by simp[Ed,Md (x:=t) (a:=en.o.dst.toList) (b:=e.o.dst.toList) (by simp[hdst]) (by simp[hdst'])])
     rw[this]
     simp;omega
    have addH:CE (Sof (listed.setIfInBounds i true)) es 0 h0=BJ (CE (Sof listed) es 0 h0) en.wr:=by
     funext x
     refine Oe es 0 h0 hen (by simpa using hS0) (by simpa using hS1) (fun k hk=>hSo k (by omega)) (fun hw k e he hw' hik=>?_)
     rw[Nat.zero_add]
     have:=order k e he (by omega) (fun h=>absurd h (by omega)) (fun _=>by simp[IU,KG (x:=x) (a:=en.wr.map (·.1)) (b:=e.wr.map (·.1)) hw hw'])
     rw[this]
     simp;omega
    have next:∀a' w',Rel C (fun n=>(base≤n∧∀i,Sof listed i=true→¬(base+32*i≤n∧n<base+32*i+32))∧¬(base+32*i≤n∧n<base+32*i+32))
      (Dg (DW (Sof listed) es 0 s0) en.o.dst en.val) (BJ (CE (Sof listed) es 0 h0) en.wr) a' w'→wpAnyIn (Bg C.ro) 0 C.P .any ops Q fuel (listed.setIfInBounds i true) a' w':=by
     intro a' w' R'
     refine ih _ a' w' (by simp[hsz]) cnt' cl' ?_
     rw[addS,addH]
     refine R'.A0 (fun n hn=>⟨⟨hn.1,fun j hj=>?_⟩,hn.2 i hS1⟩)
     by_cases hji:j=i
     ·subst hji;exact hn.2 j hS1
     ·exact hn.2 j (by rw[hSo j hji];exact hj)
    have hw:Region.wanted en.o (yielded ops a.tmps)=en.run:=by
     unfold DV at hg
     split at hg
     ·rename_i hgn
      simp[Region.wanted,hgn,hg]
     ·rename_i j want hgs
      obtain⟨d,hdj,hsd⟩:=hg
      have hmem:d∈G1 ops en.o:=by simp[G1,hgs,hdj]
      rw[←slotAgree d hmem]at hsd
      rcases hsd with hsd | ⟨hrf,hsd⟩
      rotate_left
      ·have hy:yielded ops a.tmps j=none:=by
        obtain⟨g,R⟩:=R
        have:=R.slots d
        rw[hsd]at this
        obtain⟨vs,hv,_⟩:=this
        exact I5 hdj ⟨vs,hv⟩
       simp[Region.wanted,hgs,hy,hrf]
      have hy:yielded ops a.tmps j=some (if en.run then want else !want):=by
       obtain⟨g,R⟩:=R
       have:=R.slots d
       rw[hsd]at this
       have hv:=Pu this
       unfold yielded
       rw[hdj]
       have:a.tmps[d]?=some (.bool (if en.run then want else !want)):=by
        rw[Array.getD_eq_getD_getElem?]at hv
        cases h:a.tmps[d]? with
        | none=>rw[h]at hv;simp[undef]at hv
        | some v=>rw[h]at hv;simpa using hv
       simp[this]
      simp only[Region.wanted,hgs,hy]
      cases en.run<;>cases want<;>rfl
    unfold wpOpIn
    rw[ho]
    simp only[]
    cases hr:en.run with
    | true=>
     rw[if_pos (by rw[hw,hr])]
     refine I3 (hrun hr).1 (Oper.wp_mono next ?_)
     refine (hrun hr).2 _ _ _ a w Q R (fun t ht=>slotAgree t (by simp[G1,Ee ht])) idAgree (fun k hk=>⟨by omega,fun j hj=>?_⟩) hd
     by_cases hji:j=i
     ·subst hji;rw[hS0]at hj;simp at hj
     ·omega
    | false=>
     rw[if_neg (by rw[hw,hr];simp)]
     obtain⟨z1,z2,z3⟩:=hskip hr
     refine⟨fun f _=>Dn _ f,next _ w ?_⟩
     rw[z1,z2]
     obtain⟨g,R⟩:=R
     refine⟨g,(R.put hd (v:=.t []) ⟨#[],rfl,rfl,by simp⟩).A0 (fun n hn=>hn.1)⟩
   refine⟨fun hnil=>?_,hstep⟩
   -- not all are listed: the least of those is ready
   exfalso
   have hex:∃k,k<ops.size∧Sof listed k=false:=by
    have:(List.range ops.size).filter (fun k=>!Sof listed k)≠[]:=by intro e;rw[e]at hcnt;simp at hcnt
    obtain⟨k,hk⟩:=List.exists_mem_of_ne_nil _ this
    simp at hk
    exact⟨k,hk.1,hk.2⟩
   obtain⟨k,⟨hk1,hk2⟩,hmin⟩:=least hex
   have:k∈Region.ready .any ops listed:=by
    refine mem_ready.2 ⟨?_,ops[k],by simp[hk1],fun e he hb=>?_⟩
    ·have hkl:k<listed.size:=by omega
     simp only[Sof]at hk2
     simp[hkl]at hk2 ⊢
     exact hk2
    ·have hlt:e.on<0+k:=UP ops.toList 0 k ops[k] e hback (by simp[hk1]) (by simpa using he) hb
     cases hs:Sof listed e.on with
     | true=>exact hs
     | false=>have:=hmin e.on ⟨by omega,hs⟩;omega
   rw[hnil]at this
   simp at this
 refine main ops.size (Array.replicate ops.size false) a _ (by simp) ?_ ?_ ?_
 ·have:(List.range ops.size).filter (fun k=>!Sof (Array.replicate ops.size false) k)=List.range ops.size:=by
   refine List.filter_eq_self.2 fun k hk=>?_
   simp only[Sof,Array.getD_eq_getD_getElem?,Array.getElem?_replicate]
   split<;>rfl
  rw[this];simp
 ·intro i j _ hj
  exfalso
  revert hj
  simp only[Sof,Array.getD_eq_getD_getElem?,Array.getElem?_replicate]
  split<;>simp
 ·have hz:∀k,Sof (Array.replicate ops.size false) k=false:=by intro k;simp only[Sof,Array.getD_eq_getD_getElem?,Array.getElem?_replicate];split<;>rfl
  rw[KF es 0 s0 (fun k _=>hz k),IV es 0 h0 (fun k _=>hz k)]
  obtain⟨g,R⟩:=R
  exact⟨g,R.drew.A0 (fun n hn=>hn.1)⟩
end
end Go.AM
namespace Go.AM
open Go Go.RowKit
theorem Ac.fP {C:Cx}{F:Nat→Prop}{s:AR}{h:Heap}{g:AW}{a:Act}{w:World}(R:Ac C F s h g a w) (t:Nat) (v:AV) (hr:Ar w (BG (zone g h) C.X) g h v (a.tmps.getD t undef)):
  Ac C F (Dg s (some t) v) h g a w:=by
 refine {R with slots:=fun t'=>?_}
 simp only[Dg]
 split
 ·subst_vars;exact hr
 ·exact R.slots t'
theorem Ac.mL {C:Cx}{F:Nat→Prop}{s:AR}{h:Heap}{g:AW}{a:Act}{w:World}(R:Ac C F s h g a w) {n:Nat}(hf:F n) (ag:Bool) {sz:Nat}(hsz:0<sz) (e:TypeId):
  Ac C (fun k=>F k∧k≠n) s (AO h (.loc n) (.tok 0 sz e)) (Al g (.loc n) (.slice none 0 0)) a w∧
   BD w (BG (zone (Al g (.loc n) (.slice none 0 0)) (AO h (.loc n) (.tok 0 sz e))) C.X) (Al g (.loc n) (.slice none 0 0)) (AO h (.loc n) (.tok 0 sz e)) (.lst (.loc n) ag sz []) (.slice none 0 0):=
 R.owned (out:=[]) (zs:=[]) hf ⟨rfl,rfl,rfl,Nat.le_refl _,fun _ _ _=>rfl⟩ hsz (World.ownsRow_nil w _ e sz) (by simp) (by simp)
def QH (t:Nat) (ag:Bool) (sz:Nat) (e:TypeId) (σ:St):St:=
 ⟨(t,.v (.c (.lst (.loc σ.next) ag sz [])))::σ.slots,Dr σ.heap (.loc σ.next) (.tok 0 sz e),σ.next+32⟩
theorem QI {t:Nat}{ag:Bool}{sz:Nat}{e:TypeId}{σ:St}(hsz:Nat.blt 0 sz=true) (ht:Ab σ.slots t= .v (.c (.nils ag sz))):CH σ (QH t ag sz e σ):=by
 rintro C a w ⟨g,R⟩
 have hv:=R.slots t
 rw[ht]at hv
 have hv:a.tmps.getD t undef= .slice none 0 0:=hv
 obtain⟨R',hl⟩:=R.mL (n:=σ.next) (Nat.le_refl _) ag (sz:=sz) (by simp[Nat.blt]at hsz;omega) e
 have R2:=(R'.fP t (.v (.c (.lst (.loc σ.next) ag sz []))) (by rw[hv];exact hl)).A0 (F':=fun n=>σ.next+32≤n) (fun n hn=>⟨by omega,by omega⟩)
 refine⟨Al g (.loc σ.next) (.slice none 0 0),?_⟩
 simp only[QH,DK,DM]
 exact R2
def QJ {α:Type}:List α→Nat→α→List α
 | [],_,_=>[]
 | x::r,n,y=>match n with
  | 0=>y::r
  | m+1=>x::QJ r m y
theorem Oh {α:Type}:∀(l:List α) (n:Nat) (y:α),QJ l n y=l.set n y
 | [],_,_=>rfl
 | _::_,0,_=>rfl
 | x::r,n+1,y=>by simp[QJ,Oh r n y]
def QK (i:Id) (j:Nat) (ag:Bool) (sz:Nat) (e:TypeId) (σ:St):St:=
 match AX σ.heap i with
 | some (.cells cs)=>⟨σ.slots,Dr (Dr σ.heap (.loc σ.next) (.tok 0 sz e)) i (.cells (QJ cs j (.lst (.loc σ.next) ag sz []))),σ.next+32⟩
 | _=>σ
theorem QL {i:Id}{j:Nat}{ag:Bool}{sz:Nat}{e:TypeId}{σ:St}{cs:List CV}(hsz:Nat.blt 0 sz=true) (hi:AX σ.heap i=some (.cells cs)) (hj:cs[j]?=some (.nils ag sz)):CH σ (QK i j ag sz e σ):=by
 rintro C a w ⟨g,R⟩
 obtain⟨R',hl⟩:=R.mL (n:=σ.next) (Nat.le_refl _) ag (sz:=sz) (by simp[Nat.blt]at hsz;omega) e
 have hne:i≠ .loc σ.next:=by
  rintro rfl
  have:=(R.free σ.next (Nat.le_refl _)).2
  rw[this]at hi;cases hi
 have hi':AO (AX σ.heap) (.loc σ.next) (.tok 0 sz e) i=some (.cells cs):=by simp[AO,hne,hi]
 obtain⟨b,c,et,hb,hh,hsz2,hr⟩:=R'.heap.objs i _ hi'
 have R2:=R'.store (cs':=cs.set j (.lst (.loc σ.next) ag sz [])) hi' hb hh (c':=c) (by simp[hsz2]) (fun k x u hx hu=>by
  by_cases hk:k=j
  ·subst hk
   have hlt:k<cs.length:=(List.getElem?_eq_some_iff.1 hj).1
   rw[List.getElem?_set_self hlt]at hx
   cases hx
   have:=hr k _ u hj hu
   rw[show u=_ from this]
   exact hl
  ·rw[List.getElem?_set_ne (by omega)]at hx
   exact hr k x u hx hu)
 have hw:w.setRow b c=w:=setRow_self w b c _ _ hh
 rw[hw]at R2
 have R3:=R2.A0 (F':=fun n=>σ.next+32≤n) (fun n hn=>⟨by omega,by omega⟩)
 refine⟨Al g (.loc σ.next) (.slice none 0 0),?_⟩
 simp only[QK,hi,DM,Oh]
 exact R3
inductive UQ where
 | slot (t:Nat) (ag:Bool) (sz:Nat) (e:TypeId)
 | cell (i:Id) (j:Nat) (ag:Bool) (sz:Nat) (e:TypeId)
def KH (ag:Bool) (sz:Nat):CV→Bool
 | .nils a s=>(a==ag)&&Nat.beq s sz
 | _=>false
def QM (ag:Bool) (sz:Nat):AV→Bool
 | .v (.c c)=>KH ag sz c
 | _=>false
def WX:List CV→Nat→CV
 | [],_=>.un
 | x::r,n=>match n with
  | 0=>x
  | m+1=>WX r m
def QN (K:St→Prop):List UQ→St→Prop
 | [],σ=>K σ
 | .slot t ag sz e::r,σ=>B5 (Nat.blt 0 sz)<| B5 (QM ag sz (Ab σ.slots t))<| QN K r (QH t ag sz e σ)
 | .cell i j ag sz e::r,σ=>B5 (Nat.blt 0 sz)<| (match AX σ.heap i with
  | some (.cells cs)=>B5 (KH ag sz (WX cs j))<| QN K r (QK i j ag sz e σ)
  | _=>False)
theorem Oi {ag:Bool}{sz:Nat}{c:CV}(h:KH ag sz c=true):c= .nils ag sz:=by
 cases c<;>simp[KH]at h
 obtain⟨rfl,h⟩:=h
 rw[h]
theorem SC:∀{cs:List CV}{j:Nat}{ag:Bool}{sz:Nat},KH ag sz (WX cs j)=true→cs[j]?=some (.nils ag sz)
 | [],j,ag,sz,h=>by simp[WX,KH]at h
 | x::r,0,ag,sz,h=>by simpa using Oi (by simpa [WX] using h)
 | x::r,j+1,ag,sz,h=>by simpa using SC (cs:=r) (j:=j) (by simpa [WX] using h)
theorem G2 {K:St→Prop}:∀{l:List UQ}{σ:St},QN K l σ→∃σ',(∀C a w,CL C σ a w→CL C σ' a w)∧K σ'
 | [],σ,h=>⟨σ,fun _ _ _ r=>r,h⟩
 | .slot t ag sz e::r,σ,h=>by
  obtain⟨h1,h⟩:=AN.1 h
  obtain⟨h2,h⟩:=AN.1 h
  obtain⟨σ',h3,h4⟩:=G2 h
  have ht:Ab σ.slots t= .v (.c (.nils ag sz)):=by
   revert h2
   cases Ab σ.slots t with
   | v x=>cases x with
    | c c=>intro h2;rw[Oi h2]
    | _=>intro h2;simp[QM]at h2
   | _=>intro h2;simp[QM]at h2
  exact⟨σ',fun C a w r=>h3 C a w (QI h1 ht C a w r),h4⟩
 | .cell i j ag sz e::r,σ,h=>by
  obtain⟨h1,h⟩:=AN.1 h
  split at h
  ·rename_i cs hi
   obtain⟨h2,h⟩:=AN.1 h
   obtain⟨σ',h3,h4⟩:=G2 h
   exact⟨σ',fun C a w r=>h3 C a w (QL h1 hi (SC h2) C a w r),h4⟩
  ·exact h.elim
theorem CH.trans {a b c:St}(h1:CH a b) (h2:CH b c):CH a c:=fun C x w r=>h2 C x w (h1 C x w r)
theorem CH.refl (a:St):CH a a:=fun _ _ _ r=>r
end Go.AM
namespace Go.AM
open Go Go.RowKit
def XO (c:CV) (j:Id) (n:Nat):CV:=
 match c with
 | .d (.list ag sz rows)=>match Nat.beq rows.length n with
  | true=>.d (.list ag sz rows)
  | false=>.sl j n
 | _=>.sl j n
def CV.sub (x:CV) (i:Id) (c:CV):CV:=
 match x with
 | .ow j=>match Id.beq j i with
  | true=>c
  | false=>.ow j
 | .sl j n=>match Id.beq j i with
  | true=>XO c j n
  | false=>.sl j n
 | x=>x
def isM (i:Id) (c:CV):CV→Prop
 | .ow j=>j=i
 | .sl j n=>j=i∧∃ag sz rows,c= .d (.list ag sz rows)∧rows.length=n
 | _=>False
def XP (i:Id) (c:CV):List CV→List CV
 | []=>[]
 | x::r=>x.sub i c::XP i c r
def V1.sub (i:Id) (c:CV) (x:V1):V1:=
 match x with
 | .d x=>.d x
 | .c x=>match x.sub i c with
  | .d y=>.d y
  | y=>.c y
 | .agg cs=>.agg (XP i c cs)
def Y8 (i:Id) (c:CV):List V1→List V1
 | []=>[]
 | x::r=>x.sub i c::Y8 i c r
def AV.sub (i:Id) (c:CV) (x:AV):AV:=
 match x with
 | .u=>.u
 | .v x=>.v (x.sub i c)
 | .t xs=>.t (Y8 i c xs)
def AH.sub (i:Id) (c:CV) (o:AH):AH:=
 match o with
 | .cells cs=>.cells (XP i c cs)
 | o=>o
theorem I9 {i:Id}{c:CV}:∀{l:List CV},XP i c l=l.map (fun x=>x.sub i c)
 | []=>rfl
 | x::l=>by simp[XP,I9 (l:=l)]
theorem QO {i:Id}{c:CV}:∀{l:List V1},Y8 i c l=l.map (V1.sub i c)
 | []=>rfl
 | x::l=>by simp[Y8,QO (l:=l)]
section
variable {C:Cx}{F:Nat→Prop}{s:AR}{h:Heap}{g:AW}{a:Act}{w:World}
theorem Mf {w':World}{Z Z':Aq}{g':AW}{h':Heap}{i:Id}{c:CV}(hE:∀{x:CV}{v:Value},BD w Z g h x v→BD w' Z' g' h' x v) (hc:∀x v,isM i c x→BD w Z g h x v→BD w' Z' g' h' c v) {x:CV}{v:Value}(r:BD w Z g h x v):
  BD w' Z' g' h' (x.sub i c) v:=by
 unfold CV.sub
 split
 ·rename_i j
  cases e:Id.beq j i with
  | true=>exact hc (.ow j) v (Id.beq_iff.1 e:j=i) r
  | false=>exact hE r
 ·rename_i j n
  cases e:Id.beq j i with
  | true=>
   show BD w' Z' g' h' (XO c j n) v
   unfold XO
   split
   ·rename_i ag sz rows
    cases e2:Nat.beq rows.length n with
    | true=>exact hc (.sl j n) v ⟨Id.beq_iff.1 e,ag,sz,rows,rfl,Nat.eq_of_beq_eq_true e2⟩ r
    | false=>exact hE r
   ·exact hE r
  | false=>exact hE r
 ·exact hE r
theorem Oj {w':World}{Z Z':Aq}{g':AW}{h':Heap}{i:Id}{c:CV}(hE:∀{x:CV}{v:Value},BD w Z g h x v→BD w' Z' g' h' x v) (hD:∀{x:D}{v:Value},Ad w Z x v→Ad w' Z' x v) (hc:∀x v,isM i c x→BD w Z g h x v→BD w' Z' g' h' c v) {x:V1}{v:Value}(r:Ak w Z g h x v):
  Ak w' Z' g' h' (x.sub i c) v:=by
 cases x with
 | d x=>exact hD r
 | c x=>
  have:=Mf hE hc (x:=x) r
  show Ak w' Z' g' h' (match x.sub i c with | .d y=>.d y | y=>.c y) v
  split
  ·rename_i y hy
   rw[hy]at this
   exact this.1
  ·exact this
 | agg cs=>
  obtain⟨vs,hv,hs,hr⟩:=r
  refine⟨vs,hv,by rw[I9];simpa using hs,fun j y u hy hu=>?_⟩
  rw[I9,List.getElem?_map,Option.map_eq_some_iff]at hy
  obtain⟨x,hx,rfl⟩:=hy
  exact Mf hE hc (hr j x u hx hu)
theorem WY {w':World}{Z Z':Aq}{g':AW}{h':Heap}{i:Id}{c:CV}(hE:∀{x:CV}{v:Value},BD w Z g h x v→BD w' Z' g' h' x v) (hD:∀{x:D}{v:Value},Ad w Z x v→Ad w' Z' x v) (hc:∀x v,isM i c x→BD w Z g h x v→BD w' Z' g' h' c v) {x:AV}{v:Value}(r:Ar w Z g h x v):
  Ar w' Z' g' h' (x.sub i c) v:=by
 cases x with
 | u=>trivial
 | v x=>exact Oj hE hD hc r
 | t xs=>
  obtain⟨vs,hv,hs,hr⟩:=r
  refine⟨vs,hv,by rw[QO];simpa using hs,fun j y u hy hu=>?_⟩
  rw[QO,List.getElem?_map,Option.map_eq_some_iff]at hy
  obtain⟨x,hx,rfl⟩:=hy
  exact Oj hE hD hc (hr j x u hx hu)
def Cf (h:Heap) (i:Id) (c:CV) (nw:Option (Nat×AH)):Heap:=fun j=>
 match nw with
 | some (n,o)=>if j= .loc n then some o else if j=i then some .gone else (h j).map (AH.sub i c)
 | none=>if j=i then some .gone else (h j).map (AH.sub i c)
def Cu (g:AW) (i:Id) (nw:Option (Nat×AH)):AW:=
 match nw with
 | some (n,_)=>Al g (.loc n) (g i)
 | none=>g
theorem SD {i:Id}{c:CV}{gv:Value}{o:AH}{b p:Nat}:Bf gv (o.sub i c) b p↔Bf gv o b p:=by
 cases o<;>exact Iff.rfl
theorem Lo {i:Id}{c:CV}{gv:Value}{o:AH}{b:Nat}:FG gv (o.sub i c) b↔FG gv o b:=by
 cases o<;>exact Iff.rfl
theorem XQ {i:Id}{c:CV}{o:Option AH}:isLive (o.map (AH.sub i c))=isLive o:=by
 cases o with
 | none=>rfl
 | some o=>cases o<;>rfl
theorem Ac.swap (R:Ac C F s h g a w) {i:Id}{ob:AH}(hi:h i=some ob) (hob:DF ob) {c:CV}{nw:Option (Nat×AH)}(hnw:∀n o,nw=some (n,o)→F n∧o=ob) {F':Nat→Prop}(hF:∀k,F' k→F k∧∀n o,nw=some (n,o)→k≠n)
  (hc:(∀b o,BG (zone (Cu g i nw) (Cf h i c nw)) C.X b o→BG (zone g h) C.X b o)→(nw=none→∀b o,B7 (g i) b→¬BG (zone (Cu g i nw) (Cf h i c nw)) C.X b o)→
   ∀x v,isM i c x→BD w (BG (zone g h) C.X) g h x v→BD w (BG (zone (Cu g i nw) (Cf h i c nw)) C.X) (Cu g i nw) (Cf h i c nw) c v):
  Ac C F' (fun t=>(s t).sub i c) (Cf h i c nw) (Cu g i nw) a w:=by
 -- what lies where
 have hn:∀n o,nw=some (n,o)→g (.loc n)=undef∧h (.loc n)=none:=fun n o e=>R.free n (hnw n o e).1
 have gsm:∀j,(∀n o,nw=some (n,o)→j≠ .loc n)→Cu g i nw j=g j:=by
  intro j hj
  unfold Cu
  split
  ·rename_i n o
   simp[Al,hj n o rfl]
  ·rfl
 have gne:∀j,g j≠undef→Cu g i nw j=g j:=fun j hj=>gsm j fun n o e hjn=>hj (hjn▸(hn n o e).1)
 have cases_:∀j o,Cf h i c nw j=some o→(∃n,nw=some (n,o)∧j= .loc n∧o=ob∧Cu g i nw j=g i)∨(j=i∧o= .gone)∨(j≠i∧∃o0,h j=some o0∧o=o0.sub i c∧Cu g i nw j=g j):=by
  intro j o hj
  have other:(∀n o,nw=some (n,o)→j≠ .loc n)→(if j=i then some AH.gone else (h j).map (AH.sub i c))=some o→(j=i∧o= .gone)∨(j≠i∧∃o0,h j=some o0∧o=o0.sub i c∧Cu g i nw j=g j):=by
   intro hj' hj
   split at hj
   ·cases hj;exact .inl ⟨by assumption,rfl⟩
   ·rename_i hne
    obtain⟨o0,h1,h2⟩:=Option.map_eq_some_iff.1 hj
    exact .inr ⟨hne,o0,h1,h2.symm,gsm j hj'⟩
  unfold Cf at hj
  split at hj
  ·rename_i n o'
   split at hj
   ·rename_i hjn
    cases hj
    subst hjn
    exact .inl ⟨n,rfl,rfl,(hnw n _ rfl).2,by simp[Cu,Al]⟩
   ·rename_i hjn
    exact .inr (other (by rintro n' o'' e;cases e;exact hjn) hj)
  ·exact .inr (other (by rintro n' o'' e;cases e) hj)
 have hz1:∀j o b p,Cf h i c nw j=some o→Bf (Cu g i nw j) o b p→∃j' o',h j'=some o'∧Bf (g j') o' b p∧(j'=j∨j'=i):=by
  intro j o b p hj hb
  rcases cases_ j o hj with⟨n,_,_,rfl,hg⟩ | ⟨rfl,rfl⟩ | ⟨_,o0,h1,rfl,hg⟩
  ·rw[hg]at hb
   exact⟨i,_,hi,hb,.inr rfl⟩
  ·exact hb.elim
  ·rw[hg]at hb
   exact⟨j,o0,h1,SD.1 hb,.inl rfl⟩
 have hz:∀b o,BG (zone (Cu g i nw) (Cf h i c nw)) C.X b o→BG (zone g h) C.X b o:=by
  rintro b p (⟨j,o,hj,hb⟩ | hx)
  ·obtain⟨j',o',h1,h2,_⟩:=hz1 j o b p hj hb
   exact .inl ⟨j',o',h1,h2⟩
  ·exact .inr hx
 have hgone:nw=none→∀b o,B7 (g i) b→¬BG (zone (Cu g i nw) (Cf h i c nw)) C.X b o:=by
  rintro e b p hb (⟨j,o,hj,h1⟩ | hx)
  ·rcases cases_ j o hj with⟨n,e',_⟩ | ⟨rfl,rfl⟩ | ⟨hne,o0,h2,rfl,hg⟩
   ·rw[e]at e';cases e'
   ·exact h1.elim
   ·rw[hg]at h1
    exact hne (R.heap.sep j i o0 ob b h2 hi (SD.1 h1).Hs (hob.Hs hb))
  ·exact R.heap.apart i _ b p hi (hob.Hs hb) hx
 have E:Jy w (BG (zone g h) C.X) g h w (BG (zone (Cu g i nw) (Cf h i c nw)) C.X) (Cu g i nw) (Cf h i c nw):=by
  refine⟨fun b o u hu hx=>⟨hu,fun hy=>hx (hz b o hy)⟩,fun j b hb=>gne j (by rw[hb];simp[undef]),fun j q hq=>gne j (by rw[hq];simp[undef]),fun j hj=>?_,fun j k sz e hj hk=>?_,fun j hj=>?_,fun j hj hl=>?_⟩
  ·rw[gne j (fun e=>by rw[e]at hj;exact hj)];exact hj
  ·have e1:=gne j (fun e=>by rw[e]at hj;exact hj)
   rcases cases_ j _ hk with⟨n,e',rfl,_,_⟩ | ⟨_,h2⟩ | ⟨_,o0,h2,h3,_⟩
   ·rw[(hn n _ e').1]at hj;exact hj.elim
   ·cases h2
   ·cases o0<;>simp[AH.sub]at h3
    obtain⟨rfl,rfl,rfl⟩:=h3
    exact⟨_,Nat.le_refl _,h2,fun _=>e1⟩
  ·rw[gne j (fun e=>BZ (e▸hj))];exact hj
  ·refine⟨?_,by rw[gne j (fun e=>BZ (e▸hj))]⟩
   cases ho:Cf h i c nw j with
   | none=>rw[ho]at hl;cases hl
   | some o=>
    rw[ho]at hl
    rcases cases_ j o ho with⟨n,e',rfl,_,_⟩ | ⟨_,rfl⟩ | ⟨_,o0,h2,rfl,_⟩
    ·rw[(hn n _ e').1]at hj;exact (BZ hj).elim
    ·cases hl
    ·rw[h2,←XQ (i:=i) (c:=c)];exact hl
 have hcc:=hc hz hgone
 have objs:∀j o,Cf h i c nw j=some o→BX w (BG (zone (Cu g i nw) (Cf h i c nw)) C.X) (Cu g i nw) (Cf h i c nw) o (Cu g i nw j):=by
  intro j o hj
  rcases cases_ j o hj with⟨n,_,_,rfl,hg⟩ | ⟨rfl,rfl⟩ | ⟨_,o0,h1,rfl,hg⟩
  ·rw[hg]
   exact (R.heap.objs i _ hi).nF E fun _ _=>rfl
  ·trivial
  ·rw[hg]
   cases o0 with
   | cells cs=>
    obtain⟨b,cc,e,h2,h3,h4,h5⟩:=R.heap.objs j _ h1
    refine⟨b,cc,e,h2,h3,by rw[I9];simpa using h4,fun q x u hx hu=>?_⟩
    rw[I9,List.getElem?_map,Option.map_eq_some_iff]at hx
    obtain⟨y,hy,rfl⟩:=hx
    exact Mf E.Li hcc (h5 q y u hy hu)
   | _=>exact (R.heap.objs j _ h1).nF E fun _ _=>rfl
 have hsep:∀j j' oi oj b,Cf h i c nw j=some oi→Cf h i c nw j'=some oj→FG (Cu g i nw j) oi b→FG (Cu g i nw j') oj b→j=j':=by
  intro j j' oi oj b h1 h2 h3 h4
  rcases cases_ j oi h1 with⟨n,e,rfl,rfl,hg⟩ | ⟨rfl,rfl⟩ | ⟨hne,o0,h5,rfl,hg⟩
  ·rcases cases_ j' oj h2 with⟨n',e',rfl,_,_⟩ | ⟨rfl,rfl⟩ | ⟨hne',o0',h5',rfl,hg'⟩
   ·rw[e]at e';cases e';rfl
   ·exact h4.elim
   ·rw[hg]at h3
    rw[hg']at h4
    exact absurd (R.heap.sep i j' _ _ b hi h5' h3 (Lo.1 h4)).symm hne'
  ·exact h3.elim
  ·rw[hg]at h3
   rcases cases_ j' oj h2 with⟨n',e',rfl,rfl,hg'⟩ | ⟨rfl,rfl⟩ | ⟨hne',o0',h5',rfl,hg'⟩
   ·rw[hg']at h4
    exact absurd (R.heap.sep j i _ _ b h5 hi (Lo.1 h3) h4) hne
   ·exact h4.elim
   ·rw[hg']at h4
    exact R.heap.sep j j' _ _ b h5 h5' (Lo.1 h3) (Lo.1 h4)
 have RS:=R.step (F':=F') (fun _=>True) E ⟨rfl,rfl,rfl,Nat.le_refl _,fun _ _ _=>rfl,fun _ _ _ hu _=>hu⟩ (fun j hj=>absurd trivial hj) (fun _ _ _ hj=>absurd trivial hj) (fun j o _ hj=>objs j o hj)
  (fun j o b p _ hj hb=>let ⟨j',o',h1,h2,_⟩:=hz1 j o b p hj hb;.inl ⟨j',o',trivial,h1,h2⟩) (fun j j' oi oj b _ _ h1 h2 h3 h4=>hsep j j' oi oj b h1 h2 h3 h4) (fun j _=>by rw[gsm (.ext j) (by rintro n o _ e;cases e)];exact .refl _)
  (fun k hk=>by
   obtain⟨h1,h2⟩:=hF k hk
   obtain⟨h3,h4⟩:=R.free k h1
   have hne:∀n o,nw=some (n,o)→Id.loc k≠ .loc n:=fun n o e h=>h2 n o e (by cases h;rfl)
   refine⟨(gsm _ hne).trans h3,?_⟩
   cases ho:Cf h i c nw (.loc k)with
   | none=>rfl
   | some o=>
    rcases cases_ _ o ho with⟨n,e,e',_⟩ | ⟨e,_⟩ | ⟨_,o0,h5,_⟩
    ·exact absurd e' (hne n _ e)
    ·rw[←e,h4]at hi;cases hi
    ·rw[h4]at h5;cases h5)
 exact {RS with slots:=fun t=>WY E.Li E.Gi hcc (R.slots t)}
def VG (i:Id) (c:CV):List (Nat×AV)→List (Nat×AV)
 | []=>[]
 | (t,v)::r=>(t,v.sub i c)::VG i c r
def SE (i:Id) (c:CV):List (Id×AH)→List (Id×AH)
 | []=>[]
 | (j,o)::r=>(j,o.sub i c)::SE i c r
theorem Mg {i:Id}{c:CV}:∀{l:List (Nat×AV)}{t:Nat},Ab (VG i c l) t=(Ab l t).sub i c
 | [],t=>rfl
 | (k,v)::r,t=>by
  show (match Nat.beq k t with | true=>v.sub i c | false=>Ab (VG i c r) t)=(match Nat.beq k t with | true=>v | false=>Ab r t).sub i c
  cases Nat.beq k t with
  | true=>rfl
  | false=>exact Mg
theorem Mh {i:Id}{c:CV}:∀{l:List (Id×AH)}{j:Id},AX (SE i c l) j=(AX l j).map (AH.sub i c)
 | [],j=>rfl
 | (k,v)::r,j=>by
  show (match Id.beq k j with | true=>some (v.sub i c) | false=>AX (SE i c r) j)=(match Id.beq k j with | true=>some v | false=>AX r j).map (AH.sub i c)
  cases Id.beq k j with
  | true=>rfl
  | false=>exact Mh
def UR (i:Id) (x:D) (σ:St):St:=⟨VG i (.d x) σ.slots,Dr (SE i (.d x) σ.heap) i .gone,σ.next⟩
theorem WZ {σ:St}{i:Id}{x:D}{ob:AH}(hi:AX σ.heap i=some ob) (hob:DF ob)
  (hr:∀{C:Cx} {g:AW} {w:World},EY w C.X g (AX σ.heap)→(∀b o,BG (zone g (Cf (AX σ.heap) i (.d x) none)) C.X b o→BG (zone g (AX σ.heap)) C.X b o)→(∀b o,B7 (g i) b→¬BG (zone g (Cf (AX σ.heap) i (.d x) none)) C.X b o)→
   ∀y v,isM i (.d x) y→BD w (BG (zone g (AX σ.heap)) C.X) g (AX σ.heap) y v→Ad w (BG (zone g (Cf (AX σ.heap) i (.d x) none)) C.X) x v∧x.isAgg=false):CH σ (UR i x σ):=by
 rintro C a w ⟨g,R⟩
 have R2:=R.swap (F':=fun n=>σ.next≤n) hi hob (c:=.d x) (nw:=none) (fun _ _ e=>by cases e) (fun k hk=>⟨hk,fun _ _ e=>by cases e⟩) (fun hz hg y v hm r=>hr R.heap hz (hg rfl) y v hm r)
 refine⟨g,?_⟩
 have e1:Ab (UR i x σ).slots=fun t=>(Ab σ.slots t).sub i (.d x):=by funext t;exact Mg
 have e2:AX (UR i x σ).heap=Cf (AX σ.heap) i (.d x) none:=by
  funext j
  show AX (Dr (SE i (.d x) σ.heap) i .gone) j=_
  rw[DM]
  simp only[AO,Cf,Mh]
 show Ac C (fun n=>σ.next≤n) (Ab (UR i x σ).slots) (AX (UR i x σ).heap) g a w
 rw[e1,e2]
 exact R2
theorem SF {σ:St}{i:Id}{kd:Kd}{ag:Bool}{sz:Nat}{rows:List D}(hi:AX σ.heap i=some (.tree kd ag sz rows none)) (hk:kd= .row∨kd= .flat):CH σ (UR i (.list ag sz rows) σ):=by
 refine WZ hi trivial fun RH hz hg y v hm r=>⟨?_,rfl⟩
 rename_i C g w
 have ho:=RH.objs i _ hi
 have hv:v=gval (g i):=by
  cases y<;>first | exact (hm:False).elim | skip
  ·rename_i j n
   obtain⟨rfl,_⟩:=hm
   obtain⟨⟨b,hb⟩,_⟩:=r
   obtain⟨vs,_,h1,_⟩:=ho.1
   rw[hb]at h1;cases h1
  ·rename_i j
   obtain rfl:j=i:=hm
   exact r.2.2 (by rw[hi];rfl)
 rw[hv]
 obtain⟨ht,h0,hf,xs,hx,_,U,T,h1,h2,h3,h4,h5⟩:=ho
 rcases hk with rfl | rfl
 ·exact ((Iz (show Iu .row ag sz rows=some (.list ag sz rows)from rfl)).1 (RH.objs i _ hi)).2.rF hg
 ·obtain⟨e,hl,hx⟩:=hx
  rcases hx with⟨hv,hn⟩ | ⟨q,cap,cur,hv,_,hh,hnc,hcm,hcs,htake⟩
  ·have:rows=[]:=List.eq_nil_of_length_eq_zero hn
   subst this
   rw[hv]
   exact .list ag sz [] none 0 0 0 (fun _ _=>undef) (Nat.le_refl _) (Nat.zero_le _) (by simp) (by simp) (by simp) (by simp)
  ·rw[hv]
   refine .list ag sz rows _ cap q 0 U hnc hcm hf (fun _=>rfl) (fun k r j c hr hc=>?_) (fun k r j c hr hc=>?_)
   ·obtain⟨p1,_⟩:=h1 k r j c (fun _ _ h=>by cases h) hr hc
    refine⟨?_,fun hz'=>hg q _ ((h5 q).2 (.inl (by rw[hv];rfl))) hz'⟩
    rw[←htake,List.getElem?_take]at p1
    split at p1
    ·rw[Nat.zero_add]
     simpa [World.cell?,hh] using p1
    ·cases p1
   ·obtain⟨_,p2⟩:=h1 k r j c (fun _ _ h=>by cases h) hr hc
    exact (((Ch.fz rfl).1 p2).1.1).mono fun b o u hu hn=>⟨hu,fun hz'=>hn (hz b o hz')⟩
end
end Go.AM
namespace Go.AM
open Go Go.RowKit
theorem Ac.flatten {C:Cx}{F:Nat→Prop}{s:AR}{h:Heap}{g:AW}{a:Act}{w:World}(R:Ac C F s h g a w) {i:Id}{ag:Bool}{sz:Nat}{rows:List D}(hi:h i=some (.tree .row ag sz rows none)):
  ∃g',Ac C F s (AO h i (.tree .flat ag sz rows none)) g' a w:=by
 obtain⟨ht,h0,hf,xs,hx,_,U,T,h1,h2,h3,h4,h5⟩:=R.heap.objs i _ hi
 obtain⟨gv,gt,gg,gb⟩:=W3 (gval (g i)) (blk (gval (g i))).toList (fun b=>blk (gval (g i))=some b) (fun b hb=>by simp[hb])
 have hsub:∀b,B7 gv b→B7 (g i) b:=fun b hb=>(h5 b).2 (.inl ((gb b).1 hb))
 have hX:∀b o,B7 (g i) b→¬B7 gv b→¬BG (zone (Al g i gv) (AO h i (.tree .flat ag sz rows none))) C.X b o:=by
  rintro b o hb hnb (⟨j,ob,hj,h6⟩ | hx)
  ·by_cases hji:j=i
   ·subst hji
    simp only[AO,if_pos,Option.some.injEq]at hj
    subst hj
    have h6:B7 (Al g j gv j) b:=h6
    simp only[Al,if_pos]at h6
    exact hnb h6
   ·simp only[AO,if_neg hji]at hj
    simp only[Al,if_neg hji]at h6
    exact hji (R.heap.sep j i ob _ b hj hi h6.Hs hb)
  ·exact R.heap.apart i _ b o hi hb hx
 refine⟨Al g i gv,R.Jw (fun j=>j=i) (fun j hj=>by simp[AO,Al,hj]) ?_ ?_ ?_ ?_ ?_ ?_ ?_ ?_⟩
 ·rintro j rfl
  exact .inr (.inl ⟨ht,by simpa [Al] using gt,by simp[Al,gg]⟩)
 ·rintro j rfl _ _
  rw[hi];rfl
 ·rintro j ob rfl ho
  simp only[AO,if_pos,Option.some.injEq]at ho
  exact .inl ⟨_,_,_,_,_,ho.symm⟩
 ·rintro j o rfl ho EC ED
  simp only[AO,if_pos,Option.some.injEq]at ho
  subst ho
  have e1:Al g j gv j=gv:=by simp[Al]
  rw[e1]
  refine U7 gt h0 hf (xs:=xs) (by rw[gg];exact hx) (fun k r q c hr hc=>?_) (fun b=>by rw[gb,gg])
  obtain⟨p1,p2⟩:=h1 k r q c (fun _ _ h=>by cases h) hr hc
  refine⟨_,p1,((Ch.own rfl).1 p2).rF fun b o hb=>hX b o ((h5 b).2 (.inr ⟨k,q,hb⟩)) fun hb'=>h3 k q b hb ((gb b).1 hb')⟩
 ·rintro j ob b rfl ho hb
  simp only[AO,if_pos,Option.some.injEq]at ho
  subst ho
  have hb:B7 (Al g j gv j) b:=hb
  simp only[Al,if_pos]at hb
  exact⟨j,_,rfl,hi,fun o=>hsub b hb⟩
 ·rintro j k _ _ _ rfl rfl _ _ _ _
  rfl
 ·rintro j rfl
  exact .inr ⟨ht,by simpa [Al] using gt,by simp[Al,gg]⟩
 ·intro n hn
  have:=R.free n hn
  have hne:Id.loc n≠i:=by rintro rfl;rw[this.2]at hi;cases hi
  exact⟨by simp[Al,hne,this.1],by simp[AO,hne,this.2]⟩
theorem QP {σ:St}{i:Id}{ag:Bool}{sz:Nat}{rows:List D}(hi:AX σ.heap i=some (.tree .row ag sz rows none)):CH σ ⟨σ.slots,Dr σ.heap i (.tree .flat ag sz rows none),σ.next⟩:=by
 rintro C a w ⟨g,R⟩
 obtain⟨g',R'⟩:=R.flatten hi
 refine⟨g',?_⟩
 rw[DM]
 exact R'
theorem Ac.drop {C:Cx}{F:Nat→Prop}{s:AR}{h:Heap}{g:AW}{a:Act}{w:World}(R:Ac C F s h g a w) {i:Id}{ob:AH}(hi:h i=some ob):Ac C F s (AO h i .gone) g a w:=by
 refine R.Jw (fun j=>j=i) (fun j hj=>by simp[AO,hj]) ?_ ?_ ?_ ?_ ?_ ?_ ?_ ?_
 ·rintro j rfl
  exact .inl rfl
 ·rintro j rfl _ hl
  simp[AO,isLive]at hl
 ·rintro j ob' rfl ho
  simp[AO]at ho
  exact .inr ho.symm
 ·rintro j o rfl ho _ _
  simp[AO]at ho
  subst ho
  trivial
 ·rintro j ob' b rfl ho hb
  simp[AO]at ho
  subst ho
  exact hb.elim
 ·rintro j k _ _ _ rfl rfl _ _ _ _
  rfl
 ·intro j _
  exact .refl _
 ·intro n hn
  have:=R.free n hn
  have hne:Id.loc n≠i:=by rintro rfl;rw[this.2]at hi;cases hi
  exact⟨this.1,by simp[AO,hne,this.2]⟩
inductive Gh where
 | flatten (i:Id)
 | close (i:Id)
 | freeze (i:Id)
def iJ:Kd→Bool
 | .row=>true
 | .flat=>true
 | _=>false
def gh:List Gh→St→(St→Prop)→Prop
 | [],σ,K=>K σ
 | x::r,σ,K=>match x with
  | .close i=>IM (AX σ.heap) [i] fun _ _ wr=>gh r ⟨σ.slots,Ez σ.heap wr,σ.next⟩ K
  | .freeze i=>(match AX σ.heap i with
   | some (.tree kd ag sz rows foc)=>(match foc with
    | none=>B5 (iJ kd)<| gh r (UR i (.list ag sz rows) σ) K
    | some _=>False)
   | _=>False)
  | .flatten i=>(match AX σ.heap i with
   | some (.tree kd ag sz rows foc)=>(match kd with
    | .row=>(match foc with
     | none=>gh r ⟨σ.slots,Dr σ.heap i (.tree .flat ag sz rows none),σ.next⟩ K
     | some _=>False)
    | _=>False)
   | _=>False)
theorem GB {K:St→Prop}:∀{l:List Gh}{σ:St},gh l σ K→∃σ',CH σ σ'∧K σ'
 | [],σ,h=>⟨σ,CH.refl σ,h⟩
 | .close i::r,σ,h=>by
  simp only[gh,IM]at h
  split at h
  ·rename_i kd ag sz rows k cs hi
   obtain⟨hnf,h⟩:=AN.1 h
   obtain⟨ds,iss,h,hdl,hol,hcl⟩:=J4 h
   split at h
   ·rename_i hnd
    split at h
    ·rename_i hag
     obtain⟨rows',hrows,h⟩:=h
     obtain⟨σ',hw,hk⟩:=GB h
     refine⟨σ',CH.trans (fun C a w R=>?_) hw,hk⟩
     obtain⟨g,R⟩:=R
     obtain⟨g',R'⟩:=R.Yi hi (Kp.1 hnf) hdl hol (Dl.1 hnd) (fun e=>by rw[e]at hag;simpa using hag) hcl hrows
     refine⟨g',?_⟩
     simp only[EX,List.append_nil]
     exact R'
    ·exact h.elim
   ·exact h.elim
  ·exact h.elim
 | .freeze i::r,σ,h=>by
  simp only[gh]at h
  split at h
  ·rename_i kd ag sz rows foc hi
   split at h
   ·obtain⟨h1,h⟩:=AN.1 h
    obtain⟨σ',h3,h4⟩:=GB h
    exact⟨σ',CH.trans (SF hi (by cases kd<;>simp[iJ]at h1 ⊢)) h3,h4⟩
   ·exact h.elim
  ·exact h.elim
 | .flatten i::r,σ,h=>by
  simp only[gh]at h
  split at h
  ·rename_i kd ag sz rows foc hi
   split at h
   ·split at h
    ·obtain⟨σ',h3,h4⟩:=GB h
     exact⟨σ',CH.trans (QP hi) h3,h4⟩
    ·exact h.elim
   ·exact h.elim
  ·exact h.elim
end Go.AM
namespace Go.AM
open Go Go.RowKit
def slotsOf:List V1→Nat→List (Nat×AV)
 | [],_=>[]
 | x::r,i=>(i,.v x)::slotsOf r (i+1)
def B9:List AH→Nat→List (Id×AH)
 | [],_=>[]
 | x::r,i=>(.ext i,x)::B9 r (i+1)
theorem Kv:∀(l:List V1) (i t:Nat),Ab (slotsOf l i) t= .u∨∃x,i≤t∧l[t - i]?=some x∧Ab (slotsOf l i) t= .v x
 | [],i,t=>.inl rfl
 | x::r,i,t=>by
  show Ab ((i,.v x)::slotsOf r (i+1)) t=_∨∃y,i≤t∧(x::r)[t - i]?=some y∧Ab ((i,.v x)::slotsOf r (i+1)) t= .v y
  rw[DK]
  simp only[]
  split
  ·subst t;exact .inr ⟨x,Nat.le_refl _,by simp,rfl⟩
  ·rcases Kv r (i+1) t with h | ⟨y,h1,h2,h3⟩
   ·exact .inl h
   ·refine .inr ⟨y,by omega,?_,h3⟩
    rw[show t - i=(t - (i+1))+1 from by omega]
    simpa using h2
theorem Mi:∀(l:List AH) (i:Nat) (x:Id) (o:AH),AX (B9 l i) x=some o→∃j,x= .ext j∧i≤j∧l[j - i]?=some o
 | [],i,x,o,h=>by simp[B9,AX]at h
 | y::r,i,x,o,h=>by
  rw[show B9 (y::r) i=(.ext i,y)::B9 r (i+1)from rfl,CY]at h
  simp only[AO]at h
  split at h
  ·simp at h;subst h;subst x;exact⟨i,rfl,Nat.le_refl _,by simp⟩
  ·obtain⟨j,h1,h2,h3⟩:=Mi r (i+1) x o h
   refine⟨j,h1,by omega,?_⟩
   rw[show j - i=(j - (i+1))+1 from by omega]
   simpa using h3
theorem Mj:∀(l:List AH) (i j:Nat),AX (B9 l i) (.ext (i+j))=l[j]?
 | [],i,j=>by simp[B9,AX]
 | y::r,i,j=>by
  rw[show B9 (y::r) i=(.ext i,y)::B9 r (i+1)from rfl,CY]
  simp only[AO]
  cases j with
  | zero=>simp
  | succ j=>
   rw[if_neg (by simp),show i+(j+1)=i+1+j from by omega,Mj r (i+1) j]
   simp
def EU (ti:Types) (σ:St):List ResultVar→(List V1→Prop)→Prop
 | [],K=>K []
 | .tmp t::r,K=>EM (Ab σ.slots t) fun x=>EU ti σ r fun xs=>K (x.norm::xs)
 | .cell a t::r,K=>E1 ti t (Ab σ.slots a) (AX σ.heap) fun out=>EM out.val fun x=>EU ti σ r fun xs=>K (x.norm::xs)
def SG:List V1→AV
 | [x]=>.v x
 | xs=>.t xs
def Ca (nm:List Id) (N:Nat):Id→Id
 | .ext j=>.ext j
 | .loc k=>match nm[k]? with
  | some n=>n
  | none=>.loc N
def Mk:AH→Bool
 | .gone=>true
 | _=>false
theorem Ol {o:AH}(h:Mk o=true):o= .gone:=by cases o<;>first | rfl | simp[Mk]at h
def EH (h:Heap) (r:Id→Id):List AH→Nat→Prop
 | [],_=>True
 | o::l,j=>match Mk o with
  | true=>EH h r l (j+1)
  | false=>h (.ext j)=some (o.BL r)∧EH h r l (j+1)
def JA (h:Heap) (r:Id→Id):List AH→List Id→Prop
 | [],[]=>True
 | o::l,n::nm=>h n=some (o.BL r)∧JA h r l nm
 | _,_=>False
def Ef (post:List AH):List Id→Prop
 | []=>True
 | .loc _::l=>Ef post l
 | .ext j::l=>match post[j]? with
  | some o=>match Mk o with
   | true=>Ef post l
   | false=>False
  | none=>False
def La (ti:Types) (rs:List ResultVar) (σ:St) (res:AV) (post new:List AH):Prop:=
 ∃gs,gh gs σ fun σ=>EU ti σ rs fun xs=>∃nm:List Id,nodupB nm=true∧SG xs=res.BL (Ca nm σ.next)∧EH (AX σ.heap) (Ca nm σ.next) post 0∧JA (AX σ.heap) (Ca nm σ.next) new nm∧Ef post nm
theorem Ml {h:Heap}{r:Id→Id}:∀{l:List AH}{i j:Nat}{o:AH},EH h r l i→l[j]?=some o→o= .gone∨h (.ext (i+j))=some (o.BL r)
 | o::l,i,0,_,hp,hj=>by
  simp at hj
  subst hj
  unfold EH at hp
  split at hp
  ·rename_i hg;exact .inl (Ol hg)
  ·exact .inr hp.1
 | o::l,i,j+1,_,hp,hj=>by
  simp at hj
  have hp':EH h r l (i+1):=by
   unfold EH at hp
   split at hp
   ·exact hp
   ·exact hp.2
  have:=Ml (j:=j) hp' hj
  rw[show i+(j+1)=i+1+j from by omega]
  exact this
theorem Fu {h:Heap}{r:Id→Id}:∀{l:List AH}{nm:List Id}{j:Nat}{o:AH},JA h r l nm→l[j]?=some o→∃n,nm[j]?=some n∧h n=some (o.BL r)
 | o::l,n::nm,0,_,hp,hj=>by simp at hj;subst hj;exact⟨n,rfl,hp.1⟩
 | o::l,n::nm,j+1,_,hp,hj=>by
  simp at hj
  obtain⟨m,h1,h2⟩:=Fu (j:=j) hp.2 hj
  exact⟨m,by simpa using h1,h2⟩
 | [],[],j,_,_,hj=>by simp at hj
 | [],_::_,_,_,hp,_=>hp.elim
 | _::_,[],_,_,hp,_=>hp.elim
theorem Om {h:Heap}{r:Id→Id}:∀{l:List AH}{nm:List Id},JA h r l nm→nm.length=l.length
 | o::l,n::nm,hp=>by simp[Om hp.2]
 | [],[],_=>rfl
 | [],_::_,hp=>hp.elim
 | _::_,[],hp=>hp.elim
theorem IW {post:List AH}:∀{nm:List Id}{k j:Nat},Ef post nm→nm[k]?=some (.ext j)→post[j]?=some .gone
 | [],k,j,_,h=>by simp at h
 | n::nm,0,j,hp,h=>by
  simp at h
  subst h
  simp only[Ef]at hp
  split at hp
  ·rename_i o ho
   split at hp
   ·rename_i hg;rw[ho,Ol hg]
   ·exact hp.elim
  ·exact hp.elim
 | n::nm,k+1,j,hp,h=>by
  simp at h
  refine IW (k:=k) ?_ h
  cases n with
  | loc=>exact hp
  | ext i=>
   simp only[Ef]at hp
   split at hp
   ·split at hp
    ·exact hp
    ·exact hp.elim
   ·exact hp.elim
section
variable {C:Cx}{ti:Types}{σ:St}{g:AW}{a:Act}{w:World}{F:Nat→Prop}
theorem Y9 (hti:BN C.P ti) (h1:Bu ti) (R:Ac C F (Ab σ.slots) (AX σ.heap) g a w) {p:Tmp}{t:TypeId}{k:Out→Prop}
  (hk:E1 ti t (Ab σ.slots p) (AX σ.heap) k):∃out v ad,k out∧a.tmps.getD p undef= .pointer (some ad)∧(loadVar t ad).run C.P w= .ok v w∧Ar w (BG (zone g (AX σ.heap)) C.X) g (AX σ.heap) out.val v:=by
 obtain⟨out,hko,_,H⟩:=OT (C:=C) hti h1 t _ hk
 obtain⟨v,hv,hr⟩:=H F _ _ g a w _ R (R.slots p) (fun _ _=>rfl)
 refine⟨out,v,?_⟩
 revert hv
 generalize a.tmps.getD p undef=u
 intro hv
 cases u with
 | pointer ad=>
  cases ad with
  | none=>simp[Instr.loadAt,Instr.sureAddr]at hv
  | some ad=>exact⟨ad,hko,rfl,by simpa [Instr.loadAt,Instr.sureAddr] using hv,hr⟩
 | _=>simp[Instr.loadAt,Instr.sureAddr]at hv
def Mm (tmps:Array Value):ResultVar→Sem Value
 | .tmp t=>pure (tmps.getD t undef)
 | .cell a t=>do loadVar t (←asAddr (tmps.getD a undef))
theorem FI (hti:BN C.P ti) (h1:Bu ti) (R:Ac C F (Ab σ.slots) (AX σ.heap) g a w):∀(rs:List ResultVar) (K:List V1→Prop),EU ti σ rs K→
  ∃xs vs,K xs∧(rs.mapM (Mm a.tmps)).run C.P w= .ok vs w∧vs.length=xs.length∧∀(j:Nat) x v,xs[j]?=some x→vs[j]?=some v→Ak w (BG (zone g (AX σ.heap)) C.X) g (AX σ.heap) x v
 | [],K,hk=>⟨[],[],hk,rfl,rfl,by simp⟩
 | .tmp t::r,K,hk=>by
  obtain⟨y,hy,hk⟩:=CW.1 hk
  obtain⟨xs,vs,h2,h3,h4,h5⟩:=FI hti h1 R r _ hk
  refine⟨y.norm::xs,a.tmps.getD t undef::vs,h2,by simp[List.mapM_cons,Mm,h3],by simp[h4],fun j x v hx hv=>?_⟩
  match j with
  | 0=>
   simp only[List.getElem?_cons_zero,Option.some.injEq]at hx hv
   subst hx;subst hv
   have:=R.slots t
   rw[hy]at this
   exact Ak.norm this
  | j+1=>simp at hx hv;exact h5 j x v hx hv
 | .cell p t::r,K,hk=>by
  obtain⟨out,v0,ad,hk,hp,hl,hr⟩:=Y9 hti h1 R hk
  obtain⟨y,hy,hk⟩:=CW.1 hk
  obtain⟨xs,vs,h2,h3,h4,h5⟩:=FI hti h1 R r _ hk
  refine⟨y.norm::xs,v0::vs,h2,by simp only[List.mapM_cons,Mm,hp,asAddr];simp[hl,h3],by simp[h4],fun j x v hx hv=>?_⟩
  match j with
  | 0=>
   simp only[List.getElem?_cons_zero,Option.some.injEq]at hx hv
   subst hx;subst hv
   rw[hy]at hr
   exact Ak.norm hr
  | j+1=>simp at hx hv;exact h5 j x v hx hv
theorem SH {fn:Func}{vs:List Value}(h:(fn.results.toList.mapM (Mm a.tmps)).run C.P w= .ok vs w):
  (results fn a.tmps).run C.P w= .ok (if h:vs.toArray.size=1 then vs.toArray[0]else .tuple vs.toArray) w:=by
 have e:results fn a.tmps=(do let vs ←fn.results.mapM (Mm a.tmps);pure (if h:vs.size=1 then vs[0]else .tuple vs)):=by
  unfold results
  congr 1
 rw[e,Array.mapM_eq_mapM_toList,Sem.run_bind,Sem.run_map,h]
 rfl
end
def BO.of (P:Program) (I:Inv):BO where
 I:=I
 P:=P
 split:=fun c A=>A c
 split_iff:=fun _ _=>Iff.rfl
 lock:=fun p=>p ()
 lock_iff:=fun _=>Iff.rfl
 eqI:=fun a b=>a==b
 eqI_eq:=fun _ _=>rfl
 ltI:=fun a b=>decide (a<b)
 ltI_eq:=fun _ _=>rfl
 leI:=fun a b=>decide (a≤b)
 leI_eq:=fun _ _=>rfl
 eqS:=fun a b=>a.toList==b.toList
 eqS_eq:=fun _ _=>rfl
 ltS:=fun a b=>Op.bytesLess a.toList b.toList
 ltS_eq:=fun _ _=>rfl
 lenI:=fun l=>l.length
 lenI_eq:=fun _=>rfl
 szI:=fun s=>s.size
 szI_eq:=fun _=>rfl
theorem finish {C:Cx}{σ:St}{g2:AW}{a:Act}{w':World}{X:Aq}{post new:List AH}{nm:List Id}(R2:Ac C (fun n=>σ.next≤n) (Ab σ.slots) (AX σ.heap) g2 a w') (hX:∀b o,X b o→C.X b o)
  (hnd:nm.Nodup) (hpost:EH (AX σ.heap) (Ca nm σ.next) post 0) (hnewo:JA (AX σ.heap) (Ca nm σ.next) new nm) (hhand:Ef post nm):
  EY w' X (fun i=>g2 (Ca nm σ.next i)) (Bi post new)∧(∀i ob b o,Bi post new i=some ob→Bf (g2 (Ca nm σ.next i)) ob b o→∃j ob',AX σ.heap j=some ob'∧Bf (g2 j) ob' b o)∧
   (∀k,new.length≤k→g2 (Ca nm σ.next (.loc k))=undef)∧
   ∀(x:AV) v,Ar w' (BG (zone g2 (AX σ.heap)) C.X) g2 (AX σ.heap) (x.BL (Ca nm σ.next)) v→Ar w' (BG (zone (fun i=>g2 (Ca nm σ.next i)) (Bi post new)) X) (fun i=>g2 (Ca nm σ.next i)) (Bi post new) x v:=by
 have live:∀i o,Bi post new i=some o→o= .gone∨AX σ.heap (Ca nm σ.next i)=some (o.BL (Ca nm σ.next)):=by
  intro i o hi
  cases i with
  | ext j=>have:=Ml hpost hi;rw[Nat.zero_add]at this;exact this
  | loc k=>
   obtain⟨n,hn,ho⟩:=Fu hnewo hi
   exact .inr (by simpa [Ca,hn] using ho)
 have hz:∀b o,BG (zone (fun i=>g2 (Ca nm σ.next i)) (Bi post new)) X b o→BG (zone g2 (AX σ.heap)) C.X b o:=by
  rintro b o (⟨i,ob,hi,h1⟩ | hx)
  ·rcases live i ob hi with rfl | ho
   ·exact h1.elim
   ·exact .inl ⟨_,_,ho,CU.2 h1⟩
  ·exact .inr (hX b o hx)
 have ht:∀i n sz e,Bi post new i=some (.tok n sz e)→AX σ.heap (Ca nm σ.next i)=some (.tok n sz e):=fun i n sz e hi=>(live i _ hi).resolve_left (by simp)
 have hw:∀i,isLive (Bi post new i)=true→isLive (AX σ.heap (Ca nm σ.next i))=true:=by
  intro i hi
  cases ho:Bi post new i with
  | none=>rw[ho]at hi;cases hi
  | some o=>
   rw[ho]at hi
   rcases live i o ho with rfl | h
   ·cases hi
   ·rw[h]
    exact DE.trans hi
 have hN:=R2.free σ.next (Nat.le_refl _)
 refine⟨⟨fun i o hi=>?_,fun i j oi oj b hi hj bi bj=>?_,fun i oi b o hi bi=>?_⟩,fun i ob b o hi hb=>?_,fun k hk=>?_,fun x v h=>Ar.pull (r:=Ca nm σ.next) (g:=g2) (h:=AX σ.heap) hz (fun _=>rfl) ht hw h⟩
 ·rcases live i o hi with rfl | ho
  ·trivial
  ·exact BX.pull (r:=Ca nm σ.next) hz (fun _=>rfl) ht hw (R2.heap.objs _ _ ho)
 ·rcases live i oi hi with rfl | ho
  ·exact bi.elim
  rcases live j oj hj with rfl | ho'
  ·exact bj.elim
  have e:=R2.heap.sep _ _ _ _ b ho ho' (Cp.2 bi) (Cp.2 bj)
  cases i with
  | ext i=>
   cases j with
   | ext j=>simpa [Ca] using e
   | loc k=>
    obtain⟨n,hn,_⟩:=Fu hnewo hj
    simp only[Ca,hn]at e
    subst e
    have:=IW hhand hn
    rw[show Bi post new (.ext i)=post[i]? from rfl,this]at hi
    cases hi
    exact bi.elim
  | loc k=>
   obtain⟨n,hn,_⟩:=Fu hnewo hi
   cases j with
   | ext j=>
    simp only[Ca,hn]at e
    subst e
    have:=IW hhand hn
    rw[show Bi post new (.ext j)=post[j]? from rfl,this]at hj
    cases hj
    exact bj.elim
   | loc k'=>
    obtain⟨n',hn',_⟩:=Fu hnewo hj
    simp only[Ca,hn,hn']at e
    subst e
    rw[(List.getElem?_inj (List.getElem?_eq_some_iff.1 hn).1 hnd).1 (hn.trans hn'.symm)]
 ·rcases live i oi hi with rfl | ho
  ·exact bi.elim
  ·intro hx
   exact R2.heap.apart _ _ b o ho (Cp.2 bi) (hX b o hx)
 ·rcases live i ob hi with rfl | ho
  ·exact hb.elim
  ·exact⟨_,_,ho,CU.2 hb⟩
 ·have:nm[k]?=none:=by simp[Om hnewo];omega
  simp only[Ca,this]
  exact hN.1
theorem Kw {P:Program}{fn:Func}{tmps:Array Value}{R:Ending→World→Prop}:∀(ds:List Nat) (w:World),ds.Nodup→(∀r∈ds,w.heap[r]?=some (.deferred (some [])))→
  LeavesIn Fence.wide 0 P fn tmps R [] .returning (ds.foldl (fun w r=>w.putObj r (.deferred none)) w)→LeavesInM Fence.wide 0 P fn tmps R (ds.map Gk) .returning w
 | [],w,_,_,h=>h
 | r::ds,w,hn,hd,h=>by
  refine⟨by simp,.inl ⟨r,_,rfl,run_takeDeferred (hd r (by simp)),?_⟩⟩
  refine Kw ds _ (List.nodup_cons.1 hn).2 (fun r' hr'=>?_) h
  exact (World.putObj_heap_other (by rintro rfl;exact (List.nodup_cons.1 hn).1 hr')).trans (hd r' (by simp[hr']))
theorem Kx:∀(ds:List Nat) (w:World),EF (fun b=>b∈ds) w (ds.foldl (fun w r=>w.putObj r (.deferred none)) w)
 | [],w=>⟨rfl,rfl,rfl,Nat.le_refl _,fun _ _ _=>rfl⟩
 | r::ds,w=>by
  have:=Kx ds (w.putObj r (.deferred none))
  refine⟨this.os,this.tape,this.output,by simpa using this.size,fun b hb hn=>?_⟩
  simp only[List.mem_cons,not_or]at hn
  exact (this.block b (by simpa using hb) hn.2).trans (World.putObj_heap_other hn.1)
theorem Mn:∀(ds:List Nat) (w:World),(ds.foldl (fun w r=>w.putObj r (.deferred none)) w).heap.size=w.heap.size
 | [],_=>rfl
 | r::ds,w=>by
  have:=Mn ds (w.putObj r (.deferred none))
  rw[World.putObj_size]at this
  exact this
theorem Ac.turned {C:Cx}{F:Nat→Prop}{s:AR}{h:Heap}{g:AW}{a a':Act}{w w':World}(R:Ac C F s h g a w) {B:Nat→Prop}(A:EF B w w') (hs:w'.heap.size=w.heap.size) (hB:∀b o,B b→C.X b o) (hI:∀b,C.M.I.blocks b→¬B b) (ht:a'.tmps=a.tmps) (ro:Option Nat)
  (hro:∀l,ro=some l→(∃L,w'.heap[l]?=some (.loop L))∧∀o,C.X l o) (hd:a'.defers=[]):
  ∃C2:Cx,C2.M=C.M∧C2.nt=C.nt∧C2.X=C.X∧C2.ro=ro∧C2.w0=w'∧C2.Z0=zone g h∧C2.g0=g∧C2.D=[]∧Ac C2 F s h g a' w':=by
 have hX:∀b o,C.X b o→b<w.heap.size:=fun b o hx=>Nat.lt_of_lt_of_le (R.xs b o hx) R.frame.size
 have noz:∀b,(∀o,C.X b o)→∀o,¬zone g h b o:=by
  rintro b hx o ⟨i,ob,hi,hz⟩
  exact R.heap.apart i ob b o hi hz.Hs (hx o)
 have hinv:C.M.I.at w' (BG (zone g h) C.X):=by
  obtain⟨i1,i2⟩:=R.inv
  refine⟨C.M.I.same (fun b hb=>A.block b (i2 b hb).1 (hI b hb)) i1,fun b hb=>⟨by rw[hs];exact (i2 b hb).1,(i2 b hb).2⟩⟩
 refine⟨{M:=C.M,nt:=C.nt,w0:=w',Z0:=zone g h,X:=C.X,g0:=g,hinv:=hinv,ro:=ro,D:=[],hro:=fun l hl=>⟨(hro l hl).1,noz l (hro l hl).2⟩,hD:=by simp,hDn:=List.nodup_nil},rfl,rfl,rfl,rfl,rfl,rfl,rfl,rfl,?_⟩
 refine R.RM A rfl rfl (fun i o hi=>.inl hi) (fun b o hb=>.inr (hB b o hb)) ?_ (fun b o hx=>.inl (.inr hx)) (fun b o hx=>by rw[hs];exact hX b o hx) (fun i ob b o hi hb hx=>R.heap.apart i ob b o hi hb hx) rfl (fun b o hz=>hz) (fun j=>.refl _) ht hd (fun n hn=>(R.free n hn).2)
 intro i ob b hi hb hBb
 exact R.heap.apart i ob b 0 hi hb (hB b 0 hBb)
theorem Mo {C:Cx}{P:Program}{sl:List (Nat×AV)}{pre:List AH}{g:AW}{a:Act}{w:World}(hsz:a.tmps.size=C.nt) (hd:a.defers=C.D.map Gk) (hsl:∀t,Ar w (BG (zone g (Av pre)) C.X) g (Av pre) (Ab sl t) (a.tmps.getD t undef))
  (RH:EY w C.X g (Av pre)) (hw0:C.w0=w) (hg0:C.g0=g) (hZ:∀b o,zone g (Av pre) b o→C.Z0 b o) (hX:∀b o,C.X b o→b<w.heap.size) (hg:∀n,g (.loc n)=undef):CL C ⟨sl,B9 pre 0,0⟩ a w:=by
 have hh:AX (B9 pre 0)=Av pre:=by
  funext i
  cases i with
  | ext j=>have:=Mj pre 0 j;rw[Nat.zero_add]at this;exact this
  | loc n=>
   cases hc:AX (B9 pre 0) (.loc n)with
   | none=>rfl
   | some o=>obtain⟨j,e,_⟩:=Mi pre 0 _ o hc;simp at e
 refine⟨g,?_⟩
 rw[hh]
 exact⟨hsz,hd,hsl,RH,by rw[hw0];exact Bj.refl _ _,fun j=>by rw[hg0];exact .refl _,fun j ob b o hj hz=>.inl (hZ b o ⟨_,_,hj,hz⟩),by rw[hw0];exact hX,fun n _=>⟨hg n,rfl⟩⟩
theorem Dh.intro {P:Program}{I:Inv}{ti:Types}(dr:BO→Nat→WR) (hti:BN P ti) (h1:Bu ti) (hdr:∀C:Cx,C.P=P→KD C (dr C.M C.nt)) {f:FuncId}{fn:Func}{c:Code}(hf:P.funcs[f]?=some fn) (hb:fn.body=some c)
  (hname:(fn.name== "runtime.NumGoroutine")=false) {args:List V1} {pre:List AH} {Q:AV→List AH→List AH→Prop} (hargs:args.length≤fn.ntmps)
  (hx:∀M:BO,M.P=P→M.I=I→exec M ti fn.ntmps (dr M fn.ntmps) c ⟨slotsOf args 0,B9 pre 0,0⟩ fun e σ=>match e with
   | .exit _=>False
   | .normal=>∃res post new,Q res post new∧La ti fn.results.toList σ res post new
   | .ret=>∃res post new,Q res post new∧La ti fn.results.toList σ res post new):Dh P I f args pre Q:=by
 refine⟨⟨fn,c,hf,hb,hname⟩,?_⟩
 intro w X g vals hX hI RH hg hsz hargs'
 let C:Cx:={M:=BO.of P I,nt:=fn.ntmps,w0:=w,Z0:=zone g (Av pre),X:=X,g0:=g,hinv:=hI,ro:=none,D:=[],hro:=fun l hl=>(by cases hl),hD:=fun r hr=>(by cases hr),hDn:=List.nodup_nil}
 have R0:CL C ⟨slotsOf args 0,B9 pre 0,0⟩ {tmps:=vals++Array.replicate (fn.ntmps - vals.size) undef,defers:=[]} w:=by
  refine Mo (P:=P) (by simp[C];omega) rfl (fun t=>?_) RH rfl rfl (fun _ _ h=>h) hX hg
  rcases Kv args 0 t with h | ⟨x,_,h2,h3⟩
  ·rw[h];trivial
  ·rw[h3]
   simp only[Nat.sub_zero]at h2
   have hlt:t<vals.size:=by rw[hsz];exact (List.getElem?_eq_some_iff.1 h2).1
   have:(vals++Array.replicate (fn.ntmps - vals.size) undef).getD t undef=vals[t]:=by
    simp[Array.getElem?_append,hlt]
   show Ak w _ g _ x ((vals++Array.replicate (fn.ntmps - vals.size) undef).getD t undef)
   rw[this]
   exact hargs' t x _ h2 (by simp[hlt])
 refine callsIn_wide.1 (callsIn_of_wp_marks (n:=0) hf hb trivial (wpIn_mono (Bv (M:=BO.of P I) (ro:=none) hti h1 (fun C hC hn=>by
  have:=hdr C (by show C.M.P=P;rw[hC];rfl)
  rw[hC,hn]at this
  exact this) c _ _ C _ w rfl rfl rfl (hx (BO.of P I) rfl rfl) R0) ?_))
 have fin:∀(C':Cx) (σ:St) (a':Act) (w':World),D6 C C'→(∃res post new,Q res post new∧La ti fn.results.toList σ res post new)→CL C' σ a' w'→
   LeavesInM Fence.wide 0 P fn a'.tmps (fun e w'=>∃v g' res post new,Q res post new∧e= .returned v∧Fg w X g pre res post new v w' g') a'.defers .returning w':=by
  rintro C' σ0 a' w' hle ⟨res,post,new,hQ,gs,hfin⟩ R0
  obtain⟨σ,hweak,hfin⟩:=GB hfin
  obtain⟨g1,R1⟩:=hweak _ _ _ R0
  rw[R1.defers]
  obtain⟨ds,hds,hds2⟩:=hle.marks
  have hds:C'.D=ds:=by rw[hds];exact List.append_nil ds
  refine Kw _ _ C'.hDn (fun r hr=>(R1.kept (C'.hD r hr).1 (C'.hD r hr).2).1) ?_
  have A:=Kx C'.D w'
  generalize hw2:C'.D.foldl (fun w r=>w.putObj r (.deferred none)) w'=w2 at A ⊢
  have hsz2:w2.heap.size=w'.heap.size:=by rw[←hw2];exact Mn _ _
  obtain⟨C2,c1,c2,c3,c4,c5,c6,c7,c8,R2⟩:=R1.turned (a':={tmps:=a'.tmps,defers:=[]}) A hsz2 (fun b o hb=>(hds2 b (hds▸hb)).2 o) (fun b hb hd=>(R1.inv.2 b hb).2 0 (.inr ((hds2 b (hds▸hd)).2 0))) rfl none (fun l hl=>by cases hl) rfl
  have hti2:BN C2.P ti:=by show BN C2.M.P ti;rw[c1,hle.M];exact hti
  have hP:C2.P=P:=by show C2.M.P=P;rw[c1,hle.M];rfl
  obtain⟨xs,vs,⟨nm,hnd,hres,hpost,hnewo,hhand⟩,hrun,hlen,hrel⟩:=FI (C:=C2) hti2 h1 R2 _ _ hfin
  obtain⟨f1,f2,f3,f4⟩:=finish (X:=X) R2 (fun b o hx=>by rw[c3];exact hle.X b o hx) (Dl.1 hnd) hpost hnewo hhand
  obtain⟨d1,d2,d3⟩:=hle.down R1
  have hrr:=SH (C:=C2) hrun
  rw[hP]at hrr
  refine⟨_,hrr,_,fun i=>g1 (Ca nm σ.next i),res,post,new,hQ,rfl,⟨f1,?_,?_,fun j=>d2 j,fun i ob b o hi hb=>?_,f3⟩⟩
  ·refine f4 res _ ?_
   rw[←hres]
   have other:xs.length≠1→Ar w2 (BG (zone g1 (AX σ.heap)) C2.X) g1 (AX σ.heap) (.t xs) (.tuple vs.toArray):=fun _=>
    ⟨vs.toArray,rfl,by simpa using hlen,fun j x v hx hv=>hrel j x v hx (by simpa using hv)⟩
   match xs,vs,hlen,hrel,other with
   | [x],[v],_,hrel,_=>exact hrel 0 x v rfl rfl
   | [],[],_,_,other=>exact other (by simp)
   | x::y::xs,v::u::vs,hl,_,other=>
    have:¬(v::u::vs).toArray.size=1:=by simp
    simp only[dif_neg this]
    exact other (by simp)
  ·exact d1.then (Z':=fun b _=>b∈C'.D) ⟨A.os,A.tape,A.output,A.size,fun b hb hn=>A.block b hb (hn 0),fun b o u hu hn=>A.cell hu hn⟩ (fun p o hp=>.inr (hds2 p (hds▸hp)).1)
  ·obtain⟨j,ob',hj,hz⟩:=f2 i ob b o hi hb
   exact d3 j ob' b o hj hz
 intro e a' w' hq
 cases e with
 | normal=>obtain⟨C',hle,σ,hf',hr⟩:=hq;exact fin C' σ a' w' hle hf' hr
 | ret=>obtain⟨C',hle,σ,hf',hr⟩:=hq;exact fin C' σ a' w' hle hf' hr
 | exit id=>obtain⟨C',hle,σ,hf',hr⟩:=hq;exact hf'.elim
 | goto l=>exact hq.elim
 | panic ch=>exact hq.elim
 | outgrown=>exact hq.elim
end Go.AM
namespace Go.AM
open Go Go.RowKit
def Oo:List Tmp→List V1→List (Nat×AV)→List (Nat×AV)
 | p::ps,x::xs,s=>Oo ps xs ((p,.v x)::s)
 | _,_,s=>s
theorem SI {ps:Array Tmp}{vals tmps:Array Value}:(EG ps vals tmps).size=tmps.size:=by
 unfold EG
 rw[←Array.foldl_toList]
 generalize (ps.zip vals).toList=l
 induction l generalizing tmps with
 | nil=>rfl
 | cons x l ih=>
  simp only[List.foldl_cons]
  exact ih.trans (by simp)
theorem Oq {w:World}{Z:Aq}{g:AW}{h:Heap}:∀{ps:List Tmp}{xs:List V1}{vs:List Value}{s:List (Nat×AV)}{tmps:Array Value},xs.length=ps.length→vs.length=xs.length→(∀p∈ps,p<tmps.size)→
  (∀(j:Nat) x v,xs[j]?=some x→vs[j]?=some v→Ak w Z g h x v)→(∀t,Ar w Z g h (Ab s t) (tmps.getD t undef))→
  ∀t,Ar w Z g h (Ab (Oo ps xs s) t) (((ps.zip vs).foldl (fun t x=>t.setIfInBounds x.1 x.2) tmps).getD t undef)
 | [],[],[],s,tmps,_,_,_,_,hs=>hs
 | p::ps,x::xs,v::vs,s,tmps,h1,h2,h3,h4,hs=>by
  refine Oq (ps:=ps) (xs:=xs) (vs:=vs) (by simpa using h1) (by simpa using h2) (fun q hq=>by simpa using h3 q (by simp[hq])) (fun j x v hx hv=>h4 (j+1) x v (by simpa using hx) (by simpa using hv)) ?_
  intro t
  rw[DK]
  simp only[]
  split
  ·subst t
   have:=h3 p (by simp)
   rw[Array.getD_eq_getD_getElem?,Array.getElem?_setIfInBounds_self_of_lt this]
   exact h4 0 x v rfl rfl
  ·rename_i hne
   rw[Array.getD_eq_getD_getElem?,Array.getElem?_setIfInBounds_ne (Ne.symm hne),←Array.getD_eq_getD_getElem?]
   exact hs t
 | [],_::_,_,_,_,h1,_,_,_,_=>by simp at h1
 | _::_,[],_,_,_,h1,_,_,_,_=>by simp at h1
 | [],[],_::_,_,_,_,h2,_,_,_=>by simp at h2
 | _::_,_::_,[],_,_,_,h2,_,_,_=>by simp at h2
def Dt:CD→Jump
 | .normal=>none
 | .ret=>some none
 | .exit id=>some (some id)
def ZA (σ:St) (post new:List AH):Prop:=
 ∃gs,gh gs σ fun σ=>∃nm:List Id,nodupB nm=true∧EH (AX σ.heap) (Ca nm σ.next) post 0∧JA (AX σ.heap) (Ca nm σ.next) new nm∧Ef post nm
theorem DI.intro {P:Program}{I:Inv}{ti:Types}(dr:BO→Nat→WR) (hti:BN P ti) (h1:Bu ti) (hdr:∀C:Cx,C.P=P→KD C (dr C.M C.nt)) {r:RF}{sl:List (Nat×AV)}{args:List V1}{pre:List AH}{Q:Jump→List AH→List AH→Prop}
  (hlen:args.length=r.params.size) (hps:B4 (fun p=>Nat.blt p r.nt) r.params.toList=true)
  (hx:∀M:BO,M.P=P→M.I=I→exec M ti r.nt (dr M r.nt) r.assign ⟨Oo r.params.toList args sl,B9 pre 0,0⟩ fun e σ=>match e with
   | .normal=>exec M ti r.nt (dr M r.nt) r.body σ fun e σ=>∃post new,Q (Dt e) post new∧ZA σ post new
   | _=>False):DI P I r sl args pre Q:=by
 refine⟨hlen,?_⟩
 intro l L w X g vals hX hXl hl l1 l2 l3 l4 l5 l6 hI RH hg hsz hargs hsl
 have hlt:l<w.heap.size:=(Array.getElem?_eq_some_iff.1 hl).1
 have noz:∀{X:Aq} {w:World} {g:AW} {h:Heap},EY w X g h→(∀o,X l o)→∀o,¬zone g h l o:=by
  rintro X w g h RH hx o ⟨i,ob,hi,hz⟩
  exact RH.apart i ob l o hi hz.Hs (hx o)
 let C:Cx:={M:=BO.of P I,nt:=r.nt,w0:=w,Z0:=zone g (Av pre),X:=X,g0:=g,hinv:=hI,ro:=some l,D:=[],hro:=fun l' hl'=>(by cases hl';exact⟨⟨L,hl⟩,noz RH hXl⟩),hD:=fun r hr=>(by cases hr),hDn:=List.nodup_nil}
 have hdr':∀C':Cx,C'.M=BO.of P I→C'.nt=r.nt→KD C' (dr (BO.of P I) r.nt):=fun C' hC hn=>by
  have:=hdr C' (by show C'.M.P=P;rw[hC];rfl)
  rw[hC,hn]at this
  exact this
 have R0:CL C ⟨Oo r.params.toList args sl,B9 pre 0,0⟩ {tmps:=EG L.params vals L.tmps,defers:=[]} w:=by
  refine Mo (P:=P) (by show (EG L.params vals L.tmps).size=r.nt;rw[SI];exact l6) rfl (fun t=>?_) RH rfl rfl (fun _ _ h=>h) hX hg
  have:=Oq (ps:=r.params.toList) (xs:=args) (vs:=vals.toList) (s:=sl) (tmps:=L.tmps) (by simpa using hlen) (by simpa using hsz) (fun p hp=>by
   have:=BM.1 hps p hp
   rw[l6]
   exact Nat.lt_of_succ_le (by simpa [Nat.blt] using this)) (fun j x v hx hv=>hargs j x v hx (by simpa using hv)) hsl t
  show Ar _ _ _ _ _ ((EG L.params vals L.tmps).getD t undef)
  unfold EG
  rw[l3,←Array.foldl_toList,Array.toList_zip]
  exact this
 have h1x:=hx (BO.of P I) rfl rfl
 refine roundIn_of_wpIn (F:=Fence.wide) trivial ?_
 rw[l4,l5]
 refine wpIn_mono (Bv (M:=BO.of P I) (ro:=some l) hti h1 hdr' r.assign _ _ C _ w rfl rfl rfl h1x R0) ?_
 intro e a1 w1 hq
 cases e with
 | normal=>
  obtain⟨C1,hle,σ1,hk1,g1,R1⟩:=hq
  obtain⟨d1,d2,d3⟩:=hle.down R1
  have hXl1:∀o,C1.X l o:=fun o=>hle.X l o (hXl o)
  have hl1:w1.heap[l]?=some (.loop L):=(d1.block l hlt (noz RH hXl)).trans hl
  have hlt1:l<w1.heap.size:=(Array.getElem?_eq_some_iff.1 hl1).1
  refine⟨w1.putObj l (.loop {L with state:=.busy}),run_beginRound hl1 l1,?_⟩
  have A:EF (fun b=>b=l) w1 (w1.putObj l (.loop {L with state:=.busy})):=⟨rfl,rfl,rfl,by simp,fun b _ hb=>World.putObj_heap_other hb⟩
  have hl2:(w1.putObj l (.loop {L with state:=.busy})).heap[l]?=some (.loop {L with state:=.busy}):=World.putObj_heap_same hlt1
  obtain⟨C2,c1,c2,c3,c4,c5,c6,c7,c8,R2⟩:=R1.turned (a':={tmps:=a1.tmps,defers:=[]}) A World.putObj_size (fun b o hb=>by subst hb;exact hXl1 o) (fun b hb hd=>(R1.inv.2 b hb).2 0 (.inr (by subst hd;exact hXl1 0))) rfl (some l) (fun l' hl'=>by cases hl';exact⟨⟨_,hl2⟩,hXl1⟩) rfl
  have ha1:a1={tmps:=a1.tmps,defers:=[]}:=by
   have hd:=R1.defers
   rw[hle.same (by simp[C])]at hd
   show a1=⟨a1.tmps,[]⟩
   rw[←show a1.defers=[]from hd]
  rw[ha1]
  refine wpIn_mono (Bv (M:=BO.of P I) (ro:=some l) hti h1 hdr' r.body σ1 _ C2 _ _ (c1.trans hle.M) (c2.trans hle.nt) c4 hk1 ⟨g1,R2⟩) ?_
  have fin:∀(e:CD) (a2:Act) (w3:World),(∃C3,D6 C2 C3∧∃σ,(∃post new,Q (Dt e) post new∧ZA σ post new)∧CL C3 σ a2 w3)→
    ∃v w',(Instr.endRound l ((Dt e).map Ec)).run P w3= .ok v w'∧∃jump g' post new,Q jump post new∧Ending.returned v= .returned (.bool jump.isNone)∧OZ l L w X g pre jump post new w' g':=by
   rintro e a2 w3 ⟨C3,hle3,σ0,⟨post,new,hQ,gs,hfin⟩,R3⟩
   obtain⟨σ,hweak,nm,hnd,hpost,hnewo,hhand⟩:=GB hfin
   obtain⟨g3,R3⟩:=hweak _ _ _ R3
   obtain⟨f1,f2,f3⟩:=hle3.down R3
   have hXl3:∀o,C3.X l o:=fun o=>hle3.X l o (by rw[c3];exact hXl1 o)
   have hz2:∀o,¬C2.Z0 l o:=by rw[c6];exact noz R1.heap hXl1
   have hl3:w3.heap[l]?=some (.loop {L with state:=.busy}):=by
    have:=f1.block l (by rw[c5,World.putObj_size];exact hlt1) hz2
    rw[c5]at this
    exact this.trans hl2
   have hlt3:l<w3.heap.size:=(Array.getElem?_eq_some_iff.1 hl3).1
   refine⟨_,_,run_endRound _ hl3,?_⟩
   have A3:EF (fun b=>b=l) w3 (w3.putObj l (.loop {L with state:=if ((Dt e).map Ec).isNone then .ready else .done,pending:=(Dt e).map Ec})):=⟨rfl,rfl,rfl,by simp,fun b _ hb=>World.putObj_heap_other hb⟩
   obtain⟨C4,k1,k2,k3,k4,k5,k6,k7,k8,R4⟩:=R3.turned (a':={tmps:=a2.tmps,defers:=[]}) A3 World.putObj_size (fun b o hb=>by subst hb;exact hXl3 o) (fun b hb hd=>(R3.inv.2 b hb).2 0 (.inr (by subst hd;exact hXl3 0))) rfl none (fun l' hl'=>by cases hl') rfl
   obtain⟨q1,q2,q3,_⟩:=finish (X:=X) R4 (fun b o hx=>by rw[k3];exact hle3.X b o (by rw[c3];exact hle.X b o hx)) (Dl.1 hnd) hpost hnewo hhand
   have isn:((Dt e).map Ec).isNone=(Dt e).isNone:=by cases Dt e<;>rfl
   have zin:∀b o,C2.Z0 b o→zone g (Av pre) b o∨w.heap.size≤b:=by
    intro b o hz
    rw[c6]at hz
    obtain⟨i,ob,hi,h3⟩:=hz
    exact d3 i ob b o hi h3
   have fr:Bj (fun b o=>zone g (Av pre) b o∨b=l) w (w3.putObj l (.loop {L with state:=if ((Dt e).map Ec).isNone then .ready else .done,pending:=(Dt e).map Ec})):=by
    have s1:Bj (fun b o=>zone g (Av pre) b o∨b=l) w w1:=d1.weaken (fun b o h=>.inl h)
    have one:∀{a b:World},EF (fun b=>b=l) a b→Bj (fun b _=>b=l) a b:=fun A=>⟨A.os,A.tape,A.output,A.size,fun b hb hn=>A.block b hb (fun e=>hn 0 e),fun b o u hu hn=>A.cell hu hn⟩
    have s2:=s1.then (one A) (fun p o h=>.inl (.inr h))
    have s3:=s2.then (by have:=f1;rw[c5]at this;exact this) (fun p o h=>(zin p o h).imp .inl id)
    exact s3.then (one A3) (fun p o h=>.inl (.inr h))
   refine⟨Dt e,fun i=>g3 (Ca nm σ.next i),post,new,hQ,by rw[isn],⟨q1,fr,?_,fun j=>?_,fun i ob b o hi hb=>?_,q3⟩⟩
   ·rw[World.putObj_heap_same hlt3,isn]
   ·have e1:=d2 j
    have e2:=f2 j
    rw[c7]at e2
    exact e1.trans e2
   ·obtain⟨j,ob',hj,hz⟩:=q2 i ob b o hi hb
    rcases f3 j ob' b o hj hz with h | h
    ·exact zin b o h
    ·rw[c5,World.putObj_size]at h
     exact .inr (Nat.le_trans d1.size h)
  intro e a2 w3 hq
  cases e with
  | normal=>exact fin .normal a2 w3 hq
  | ret=>exact fin .ret a2 w3 hq
  | exit id=>exact fin (.exit id) a2 w3 hq
  | goto l=>exact hq.elim
  | panic ch=>exact hq.elim
  | outgrown=>exact hq.elim
 | exit id=>obtain⟨_,_,_,hk,_⟩:=hq;exact hk.elim
 | ret=>obtain⟨_,_,_,hk,_⟩:=hq;exact hk.elim
 | goto l=>exact hq.elim
 | panic ch=>exact hq.elim
 | outgrown=>exact hq.elim
end Go.AM
namespace Go.AM
open Go Go.RowKit
theorem US {P:Program}{ti:Types}(hti:BN P ti) (h1:Bu ti) (hm:P.follows .mixedOrders=true):∀C:Cx,C.P=P→KD C (Bh ti C.M C.nt):=fun C hC=>by
 have hti':BN C.P ti:=by rw[hC];exact hti
 have hm':C.P.follows .mixedOrders=true:=by rw[hC];exact hm
 exact Y7 hti' h1 hm'
theorem Dh.of {P:Program}{I:Inv}{ti:Types}(hti:BN P ti) (h1:Bu ti) (hm:P.follows .mixedOrders=true) {f:FuncId}{fn:Func}{c:Code}(hf:P.funcs[f]?=some fn) (hb:fn.body=some c)
  (hname:(fn.name== "runtime.NumGoroutine")=false) {args:List V1} {pre:List AH} {Q:AV→List AH→List AH→Prop} {nt:Nat} (hnt:fn.ntmps=nt) (hargs:Nat.ble args.length nt=true) {rs:List ResultVar} (hrs:fn.results.toList=rs)
  (hx:∀M:BO,M.P=P→M.I=I→exec M ti nt (Bh ti M nt) c ⟨slotsOf args 0,B9 pre 0,0⟩ fun e σ=>match e with
   | .exit _=>False
   | .normal=>∃res post new,Q res post new∧La ti rs σ res post new
   | .ret=>∃res post new,Q res post new∧La ti rs σ res post new):Dh P I f args pre Q:=by
 subst hnt
 subst hrs
 exact Dh.intro (fun M nt=>Bh ti M nt) hti h1 (US hti h1 hm) hf hb hname (Nat.le_of_ble_eq_true hargs) hx
theorem BB.of {P:Program}{I:Inv}{ti:Types}(hti:BN P ti) (h1:Bu ti) (hm:P.follows .mixedOrders=true) {f:FuncId}{fn:Func}{c:Code}(hf:P.funcs[f]?=some fn) (hb:fn.body=some c)
  (hname:(fn.name== "runtime.NumGoroutine")=false) {args:List V1} {pre post new:List AH} {res:AV} {nt:Nat} (hnt:fn.ntmps=nt) (hargs:Nat.ble args.length nt=true) {rs:List ResultVar} (hrs:fn.results.toList=rs)
  (hx:∀M:BO,M.P=P→M.I=I→exec M ti nt (Bh ti M nt) c ⟨slotsOf args 0,B9 pre 0,0⟩ fun e σ=>match e with
   | .exit _=>False
   | .normal=>∃r p n,(r=res∧p=post∧n=new)∧La ti rs σ r p n
   | .ret=>∃r p n,(r=res∧p=post∧n=new)∧La ti rs σ r p n):BB P I f args pre res post new:=
 Dh.of hti h1 hm hf hb hname hnt hargs hrs hx
theorem AZ {ti:Types}{rs:List ResultVar}{σ:St}{res:AV}{post new:List AH}(h:EU ti σ rs fun xs=>∃nm:List Id,nodupB nm=true∧SG xs=res.BL (Ca nm σ.next)∧EH (AX σ.heap) (Ca nm σ.next) post 0∧JA (AX σ.heap) (Ca nm σ.next) new nm∧Ef post nm):
  ∃r p n,(r=res∧p=post∧n=new)∧La ti rs σ r p n:=⟨_,_,_,⟨rfl,rfl,rfl⟩,[],h⟩
theorem Dh.at {P:Program}{I:Inv}{M:BO}{f:FuncId}{args:List V1}{pre:List AH}{Q:AV→List AH→List AH→Prop}(hP:M.P=P) (hI:M.I=I) (h:Dh P I f args pre Q):Dh M.P M.I f args pre Q:=by rw[hP,hI];exact h
theorem DI.of {P:Program}{I:Inv}{M:BO}(hP:M.P=P) (hI:M.I=I) {ti:Types}(hti:BN P ti) (h1:Bu ti) (hm:P.follows .mixedOrders=true) {r:RF}{sl:List (Nat×AV)}{args:List V1}{pre:List AH}{Q:Jump→List AH→List AH→Prop}{nt:Nat}{ps:List Tmp}{ca cb:Code}
  (hnt:r.nt=nt) (hpl:r.params.toList=ps) (ha:r.assign=ca) (hb:r.body=cb) (hlen:args.length=ps.length) (hps:B4 (fun p=>Nat.blt p nt) ps=true)
  (hx:∀M:BO,M.P=P→M.I=I→exec M ti nt (Bh ti M nt) ca ⟨Oo ps args sl,B9 pre 0,0⟩ fun e σ=>match e with
   | .normal=>exec M ti nt (Bh ti M nt) cb σ fun e σ=>∃post new,Q (Dt e) post new∧ZA σ post new
   | _=>False):DI M.P M.I r sl args pre Q:=by
 subst hnt
 subst hpl
 subst ha
 subst hb
 rw[hP,hI]
 exact DI.intro (fun M nt=>Bh ti M nt) hti h1 (US hti h1 hm) (by simpa using hlen) hps hx
section
variable {M:BO}{A:Bool→Prop}
theorem Ay {a b:Int}(h1:a=b→A true) (h0:a≠b→A false):M.split (M.eqI a b) A:=by
 rw[M.split_iff,M.eqI_eq]
 by_cases h:a=b
 ·rw[beq_iff_eq.2 h];exact h1 h
 ·rw[beq_eq_false_iff_ne.2 h];exact h0 h
theorem B1 {a b:Int}(h1:a<b→A true) (h0:b≤a→A false):M.split (M.ltI a b) A:=by
 rw[M.split_iff,M.ltI_eq]
 by_cases h:a<b
 ·rw[decide_eq_true h];exact h1 h
 ·rw[decide_eq_false h];exact h0 (by omega)
theorem XR {a b:Int}(h:¬a<b) (h0:A false):M.split (M.ltI a b) A:=B1 (fun e=>absurd e h) (fun _=>h0)
theorem GC {a b:Int}(h1:a≤b→A true) (h0:b<a→A false):M.split (M.leI a b) A:=by
 rw[M.split_iff,M.leI_eq]
 by_cases h:a≤b
 ·rw[decide_eq_true h];exact h1 h
 ·rw[decide_eq_false h];exact h0 (by omega)
theorem XS {a b:ByteArray}(h1:(a.toList==b.toList)=true→A true) (h0:(a.toList==b.toList)=false→A false):M.split (M.eqS a b) A:=by
 rw[M.split_iff,M.eqS_eq]
 cases h:(a.toList==b.toList)
 ·exact h0 h
 ·exact h1 h
end
section
variable {M:BO}{f:FuncId}{args:List V1}{fresh:Nat}{h:Heap}{k:Out→Prop}{targs:List V1}{res:AV}
theorem AU {P:Program}{I:Inv}(hP:M.P=P) (hI:M.I=I) (ht:BB P I f targs [] res [] []) (he:args=targs.map (V1.BL (Ba [] fresh))) (hk:k ⟨res.BL (Ba [] fresh),[],[]⟩):
  M.lock fun _=>Lj M.P M.I f args fresh h k:=
 (M.lock_iff _).2 ⟨[],targs,[],res,[],[],hP▸hI▸ht,he,rfl,List.nodup_nil,by simp,trivial,by simp,hk⟩
theorem UT {ti:Types}{o:Oper}{c:Call}{x:Operand}{s:AR}(ho:o.op= .call c) (hc:c.callee= .value x) (hk:MK h (fun h'=>Br M ti o fresh s h') k):EN M ti o fresh s h k:=by
 unfold EN
 rw[ho]
 simp only[]
 rw[hc]
 exact .inr (.inl hk)
theorem An {ti:Types}{o:Oper}{c:Call}{x:Operand}{s:AR}{X:Prop}(ho:o.op= .call c) (hc:c.callee= .value x) (hk:Br M ti o fresh s h k):M.lock fun _=>EN M ti o fresh s h k∨X:=
 (M.lock_iff _).2<| .inl<| UT ho hc ⟨[],hk⟩
theorem ZB {A X:Prop}(hk:X):M.lock fun _=>A∨X:=(M.lock_iff _).2 (.inr hk)
def SJ (h:Heap) (r:Id→Id):List Id→List AH→Prop
 | [],[]=>True
 | i::m,o::pre=>h i=some (o.BL r)∧SJ h r m pre
 | _,_=>False
theorem Du {r:Id→Id}:∀{m:List Id}{pre:List AH},SJ h r m pre→m.length=pre.length∧∀(j:Nat) i o,m[j]?=some i→pre[j]?=some o→h i=some (o.BL r)
 | [],[],_=>⟨rfl,by simp⟩
 | i::m,o::pre,hp=>by
  obtain⟨h1,h2⟩:=Du hp.2
  refine⟨by simp[h1],fun j i' o' hi ho=>?_⟩
  match j with
  | 0=>simp at hi ho;subst hi;subst ho;exact hp.1
  | j+1=>simp at hi ho;exact h2 j i' o' hi ho
 | [],_::_,hp=>hp.elim
 | _::_,[],hp=>hp.elim
theorem Cs {P:Program}{I:Inv}(hP:M.P=P) (hI:M.I=I) (m:List Id) {pre post new:List AH}(ht:BB P I f targs pre res post new) (he:args=targs.map (V1.BL (Ba m fresh))) (hm:m.Nodup)
  (hpre:SJ h (Ba m fresh) m pre) (hkd:CC pre post) (hn:new.length≤31) (hk:k ⟨res.BL (Ba m fresh),m,OE m (Ba m fresh) post++DJ fresh (Ba m fresh) 0 new⟩):
  M.lock fun _=>Lj M.P M.I f args fresh h k:=
 (M.lock_iff _).2 ⟨m,targs,pre,res,post,new,hP▸hI▸ht,he,(Du hpre).1,hm,(Du hpre).2,hkd,hn,hk⟩
end
theorem drawn {M:BO}{p:Unit→Prop}{K:Prop}(hd:p ()) (hk:K):M.lock p∧K:=⟨(M.lock_iff _).2 hd,hk⟩
theorem CO {M:BO}{ex:St→(CD→St→Prop)→Prop}{σ:St}{K:CD→St→Prop}(ks:List Nat) (is:List Id) (nx:Nat) {T:Type}(S:T→St) (I:T→Prop) (m:T→Nat) (t0:T)
  (hI:I t0) (h0:LZ ks is nx σ (·=S t0))
  (hr:∀t,I t→ex (S t) fun e σ2=>match e with
   | .normal=>∃n' σ3,n'<m t∧CH σ2 σ3∧∃t',I t'∧n'=m t'∧σ3=S t'
   | .exit id=>K (.exit id) σ2
   | .ret=>K .ret σ2):M.lock fun _=>VB ex σ K∨∃n,Hd ex K n σ:=by
 refine (M.lock_iff _).2<| .inl ⟨fun n σ=>∃t,I t∧n=m t∧σ=S t,m t0,?_,?_⟩
 ·obtain⟨σ',hw,e⟩:=Fq h0
  exact⟨σ',hw,t0,hI,rfl,e⟩
 ·rintro n σ1 ⟨t,h1,rfl,rfl⟩
  exact hr t h1
theorem Dv {M:BO}{ex:St→(CD→St→Prop)→Prop}{σ:St}{K:CD→St→Prop}(tr:List UQ) (ks:List Nat) (is:List Id) (nx:Nat) {T:Type}(S:T→St) (I:T→Prop) (m:T→Nat) (t0:T)
  (hI:I t0) (h0:QN (fun σ=>LZ ks is nx σ (·=S t0)) tr σ)
  (hr:∀t,I t→ex (S t) fun e σ2=>match e with
   | .normal=>∃n' σ3,n'<m t∧CH σ2 σ3∧∃t',I t'∧n'=m t'∧σ3=S t'
   | .exit id=>K (.exit id) σ2
   | .ret=>K .ret σ2):M.lock fun _=>VB ex σ K∨∃n,Hd ex K n σ:=by
 refine (M.lock_iff _).2<| .inl ⟨fun n σ=>∃t,I t∧n=m t∧σ=S t,m t0,?_,?_⟩
 ·obtain⟨σ1,hw1,h1⟩:=G2 h0
  obtain⟨σ',hw,e⟩:=Fq h1
  exact⟨σ',CH.trans hw1 hw,t0,hI,rfl,e⟩
 ·rintro n σ1 ⟨t,h1,rfl,rfl⟩
  exact hr t h1
theorem BT {T:Type}{m:T→Nat}{I:T→Prop}{S:T→St}{σ2:St}{k:Nat}(t':T) (ks:List Nat) (is:List Id) (nx:Nat) (hI:I t') (hm:m t'<k) (hk:LZ ks is nx σ2 (·=S t')):
  ∃n' σ3,n'<k∧CH σ2 σ3∧∃t',I t'∧n'=m t'∧σ3=S t':=by
 obtain⟨σ',hw,e⟩:=Fq hk
 exact⟨m t',σ',hm,hw,t',hI,rfl,e⟩
theorem wrap_i64 {x z:Int}(h: -9223372036854775808≤x∧x≤9223372036854775807) (hz:z=x):IntKind.i64.wrap x=z:=by
 rw[hz];exact IntWalk.i64_in x h
section
variable {M:BO}{L L':List D}{N i:Int}(hN:0≤N∧L.length=N.toNat)
include hN
end
end Go.AM
namespace Go.AM
open Go Go.RowKit
def ZC (p:Id→Bool):CV→Bool
 | .ptr i _=>p i
 | .fn _ cap=>B4 p cap
 | .lst i _ _ _=>p i
 | .sl i _=>p i
 | .map i=>p i
 | .ap i _ _ _ _=>p i
 | .ow i=>p i
 | .op i _ _ _=>p i
 | .yl i=>p i
 | _=>true
def fR (p:Id→Bool):V1→Bool
 | .d _=>true
 | .c x=>ZC p x
 | .agg cs=>B4 (ZC p) cs
def fS (p:Id→Bool):AV→Bool
 | .u=>true
 | .v x=>fR p x
 | .t xs=>B4 (fR p) xs
def N1 (p:Id→Bool):AH→Bool
 | .cells cs=>B4 (ZC p) cs
 | .tok ..=>true
 | .map _ _ es=>B4 (fun e=>fR p e.2) es
 | .arr cs1 _ _ _ cs2=>match B4 (ZC p) cs1 with
  | true=>B4 (ZC p) cs2
  | false=>false
 | .tree _ _ _ _ foc=>match foc with
  | some x=>B4 (ZC p) x.2
  | none=>true
 | .gone=>true
 | .rnd _ sl=>B4 (fun x=>fS p x.2) sl
 | .rndX _=>true
section
variable {p:Id→Bool}{f e:Id→Id}(hp:∀i,p i=true→f (e i)=i)
include hp
theorem XT {c:CV}(h:ZC p c=true):(c.BL e).BL f=c:=by
 cases c<;>simp only[CV.BL,ZC]at h ⊢
 ·rw[hp _ h]
 ·rw[List.map_map]
  congr 1
  rw[BM]at h
  exact B8 fun i hi=>hp _ (h i hi)
 ·rw[hp _ h]
 ·rw[hp _ h]
 ·rw[hp _ h]
 ·rw[hp _ h]
 ·rw[hp _ h]
 ·rw[hp _ h]
 ·rw[hp _ h]
theorem JB {cs:List CV}(h:B4 (ZC p) cs=true):(cs.map (CV.BL e)).map (CV.BL f)=cs:=by
 rw[List.map_map]
 rw[BM]at h
 exact B8 fun i hi=>XT hp (h i hi)
theorem QQ {c:V1}(h:fR p c=true):(c.BL e).BL f=c:=by
 cases c<;>simp only[V1.BL,fR]at h ⊢
 ·rw[XT hp h]
 ·rw[JB hp h]
theorem UU {c:AV}(h:fS p c=true):(c.BL e).BL f=c:=by
 cases c<;>simp only[AV.BL,fS]at h ⊢
 ·rw[QQ hp h]
 ·rw[List.map_map]
  congr 1
  rw[BM]at h
  exact B8 fun i hi=>QQ hp (h i hi)
theorem Lp {c:AH}(h:N1 p c=true):(c.BL e).BL f=c:=by
 cases c<;>simp only[AH.BL,N1]at h ⊢
 ·rw[JB hp h]
 ·rw[List.map_map]
  congr 1
  rw[BM]at h
  refine B8 fun i hi=>?_
  show (i.1,(i.2.BL e).BL f)=i
  rw[QQ hp (h i hi)]
 ·split at h
  ·rename_i h1
   rw[JB hp h,JB hp h1]
  ·cases h
 ·congr 1
  split at h
  ·show some (_,List.map (CV.BL f) (List.map (CV.BL e) _))=_
   rw[JB hp h]
  ·rfl
 ·rw[List.map_map]
  congr 1
  rw[BM]at h
  refine B8 fun i hi=>?_
  show (i.1,(i.2.BL e).BL f)=i
  rw[UU hp (h i hi)]
end
theorem XU {σ σ':St}(r:Id→Id) (hext:∀j,r (.ext j)= .ext j) (hbig:∀n,σ'.next≤n→∃N,σ.next≤N∧r (.loc n)= .loc N)
  (hs:∀t,Ab σ'.slots t= .u∨Ab σ.slots t=(Ab σ'.slots t).BL r) (hh:∀i o,AX σ'.heap i=some o→AX σ.heap (r i)=some (o.BL r))
  (hinj:∀i j o o',AX σ'.heap i=some o→AX σ'.heap j=some o'→r i=r j→i=j) (hlow:∀n,σ'.next≤n→AX σ'.heap (.loc n)=none):CH σ σ':=by
 rintro C a w ⟨g,R⟩
 let g':AW:=fun i=>g (r i)
 have hz:∀b o,zone g' (AX σ'.heap) b o→zone g (AX σ.heap) b o:=by
  rintro b o ⟨i,ob,hi,h1⟩
  exact⟨r i,_,hh i ob hi,CU.2 h1⟩
 have hzz:∀b o,BG (zone g' (AX σ'.heap)) C.X b o→BG (zone g (AX σ.heap)) C.X b o:=fun b o hx=>hx.imp (hz b o) id
 have ht:∀i n sz e,AX σ'.heap i=some (.tok n sz e)→AX σ.heap (r i)=some (.tok n sz e):=fun i n sz e hi=>hh i _ hi
 have hw:∀i,isLive (AX σ'.heap i)=true→isLive (AX σ.heap (r i))=true:=by
  intro i hi
  cases hc:AX σ'.heap i with
  | none=>rw[hc]at hi;cases hi
  | some o=>
   rw[hh i o hc]
   rw[hc]at hi
   exact DE.trans hi
 refine⟨g',R.size,R.defers,fun t=>?_,⟨fun i o hi=>BX.pull (r:=r) (g':=g') hzz (fun _=>rfl) ht hw (R.heap.objs _ _ (hh i o hi)),fun i j oi oj b hi hj bi bj=>?_,fun i oi b o hi bi=>R.heap.apart _ _ b o (hh i oi hi) (Cp.2 bi)⟩,R.frame,fun j=>?_,
  fun j ob b o hj hz'=>R.within _ _ b o (hh j ob hj) (CU.2 hz'),R.xs,fun n hn=>⟨?_,hlow n hn⟩⟩
 ·rcases hs t with e | e
  ·rw[e];trivial
  ·have:=R.slots t
   rw[e]at this
   exact Ar.pull (r:=r) hzz (fun _=>rfl) ht hw this
 ·exact hinj i j oi oj hi hj (R.heap.sep _ _ _ _ b (hh i oi hi) (hh j oj hj) (Cp.2 bi) (Cp.2 bj))
 ·show Cd (C.g0 (.ext j)) (g (r (.ext j)))
  rw[hext]
  exact R.ext j
 ·obtain⟨N,hN,e⟩:=hbig n hn
  show g (r (.loc n))=undef
  rw[e]
  exact (R.free N hN).1
def aX:List (Nat×Nat)→Nat→Option Nat
 | [],_=>none
 | (a,b)::l,k=>match Nat.beq a k with
  | true=>some b
  | false=>aX l k
def aY:List (Nat×Nat)→Nat→Option Nat
 | [],_=>none
 | (a,b)::l,k=>match Nat.beq b k with
  | true=>some a
  | false=>aY l k
def G3 (l:List (Nat×Nat)):Id→Id
 | .ext j=>.ext j
 | .loc k=>match aX l k with
  | some m=>.loc m
  | none=>.loc k
def XV (l:List (Nat×Nat)):Id→Id
 | .ext j=>.ext j
 | .loc k=>match aY l k with
  | some m=>.loc m
  | none=>.loc k
def Mp (l:List (Nat×Nat)) (n:Nat) (i:Id):Bool:=
 match Id.beq (XV l (G3 l i)) i with
 | true=>LY n (G3 l i)
 | false=>false
def ZD (l:List (Nat×Nat)):List (Nat×AV)→List (Nat×AV)
 | []=>[]
 | (t,x)::r=>(t,x.BL (G3 l))::ZD l r
def SK (l:List (Nat×Nat)):List (Id×AH)→List (Id×AH)
 | []=>[]
 | (i,x)::r=>(G3 l i,x.BL (G3 l))::SK l r
def VH (ks:List Nat) (is:List Id) (n:Nat) (l:List (Nat×Nat)) (σ:St) (K:St→Prop):Prop:=
 match Ku σ.heap is with
 | none=>False
 | some hp=>B5 (B4 (fun x:Nat×AV=>fS (Mp l n) x.2) (Gz σ.slots ks))<| B5 (B4 (fun x:Id×AH=>match Mp l n x.1 with | true=>N1 (Mp l n) x.2 | false=>false) hp)<|
   K ⟨ZD l (Gz σ.slots ks),SK l hp,n⟩
theorem XW {l:List (Nat×Nat)}{s:List (Nat×AV)}(t:Nat):Ab (ZD l s) t=(Ab s t).BL (G3 l):=by
 induction s with
 | nil=>rfl
 | cons x s ih=>
  obtain⟨k,v⟩:=x
  show Ab ((k,v.BL (G3 l))::ZD l s) t=_
  rw[DK,DK]
  simp only[]
  split
  ·rfl
  ·exact ih
theorem SL {l:List (Nat×Nat)}{p:Id→Bool}{f:Id→Id}(hp:∀i,p i=true→f (G3 l i)=i):∀{s:List (Id×AH)},(∀x∈s,p x.1=true)→∀{i:Id}{o:AH},AX (SK l s) i=some o→p (f i)=true∧G3 l (f i)=i∧∃o',AX s (f i)=some o'∧o=o'.BL (G3 l)
 | [],_,i,o,h=>by simp[SK,AX]at h
 | (k,v)::s,hs,i,o,h=>by
  have hk:=hs (k,v) (by simp)
  rw[show SK l ((k,v)::s)=(G3 l k,v.BL (G3 l))::SK l s from rfl,CY]at h
  simp only[AO]at h
  by_cases e:i=G3 l k
  ·rw[if_pos e]at h
   simp at h
   have hf:f i=k:=by rw[e];exact hp k hk
   rw[hf]
   exact⟨hk,e.symm,v,by rw[CY];simp[AO],h.symm⟩
  ·rw[if_neg e]at h
   obtain⟨h1,h2,o',h3,h4⟩:=SL hp (fun x hx=>hs x (List.mem_cons_of_mem _ hx)) h
   refine⟨h1,h2,o',?_,h4⟩
   rw[CY]
   simp only[AO]
   rw[if_neg]
   ·exact h3
   ·rintro rfl
    exact e h2.symm
theorem XX {q:Id×AH→Bool}{l:List (Id×AH)}(h:B4 q l=true) {i:Id}{o:AH}(hi:AX l i=some o):q (i,o)=true:=by
 induction l with
 | nil=>simp[AX]at hi
 | cons x l ih=>
  obtain⟨k,v⟩:=x
  rw[BM]at h
  rw[CY]at hi
  simp only[AO]at hi
  split at hi
  ·rename_i e
   cases hi
   rw[e]
   exact h _ (List.mem_cons_self ..)
  ·exact ih (BM.2 fun x hx=>h x (by simp[hx])) hi
theorem Mq {ks:List Nat}{is:List Id}{n:Nat}{l:List (Nat×Nat)}{σ:St}{K:St→Prop}(h:VH ks is n l σ K):∃σ',CH σ σ'∧K σ':=by
 unfold VH at h
 split at h
 ·exact h.elim
 ·rename_i hp hhp
  obtain⟨h1,h⟩:=AN.1 h
  obtain⟨h2,h⟩:=AN.1 h
  let N:=max σ.next n
  let f:Id→Id:=fun i=>if LY n i=true then XV l i else .loc N
  have hpf:∀i,Mp l n i=true→f (G3 l i)=i:=by
   intro i hi
   unfold Mp at hi
   split at hi
   ·rename_i hb
    show (if LY n (G3 l i)=true then _ else _)=i
    rw[if_pos hi]
    exact Id.beq_iff.1 hb
   ·cases hi
  have hk2:∀x∈hp,Mp l n x.1=true∧N1 (Mp l n) x.2=true:=by
   intro x hx
   have:=BM.1 h2 x hx
   split at this
   ·rename_i hb;exact⟨hb,this⟩
   ·cases this
  have hnew:∀i o,AX (SK l hp) i=some o→Mp l n (f i)=true∧G3 l (f i)=i∧∃o',AX hp (f i)=some o'∧o=o'.BL (G3 l):=fun i o hi=>SL hpf (fun x hx=>(hk2 x hx).1) hi
  refine⟨_,XU f (fun j=>by show (if LY n (.ext j)=true then _ else _)=_;simp[LY,XV]) (fun m hm=>⟨N,Nat.le_max_left _ _,?_⟩) (fun t=>?_) (fun i o hi=>?_) (fun i j o o' hi hj e=>?_) (fun m hm=>?_),h⟩
  ·have hm:n≤m:=hm
   have:LY n (.loc m)=false:=by
    cases hb:LY n (.loc m)with
    | false=>rfl
    | true=>simp[LY]at hb;omega
   show (if LY n (.loc m)=true then _ else _)=_
   rw[this];rfl
  ·rw[XW]
   rcases Ob (l:=σ.slots) (ks:=ks) t with e | e
   ·rw[e];exact .inl rfl
   ·right
    rw[←e]
    exact (UU hpf (R5 (p:=fS (Mp l n)) rfl h1 t)).symm
  ·obtain⟨p1,p2,o',p3,rfl⟩:=hnew i o hi
   have hq:=XX (q:=fun x=>N1 (Mp l n) x.2) (BM.2 fun x hx=>(hk2 x hx).2) p3
   rw[Lp hpf hq]
   exact (Hf hhp _ _ p3).1
  ·obtain⟨_,p2,_⟩:=hnew i o hi
   obtain⟨_,q2,_⟩:=hnew j o' hj
   rw[←p2,←q2,e]
  ·cases hc:AX (SK l hp) (.loc m)with
   | none=>rfl
   | some o=>
    obtain⟨p1,p2,_⟩:=hnew _ o hc
    have hm:n≤m:=hm
    unfold Mp at p1
    split at p1
    ·rw[p2]at p1
     simp[LY]at p1
     omega
    ·cases p1
end Go.AM
namespace Go.AM
open Go Go.RowKit
theorem Wa {M:BO}{ex:St→(CD→St→Prop)→Prop}{σ:St}{K:CD→St→Prop}(gs:List Gh) (l:List (Nat×Nat)) (ks:List Nat) (is:List Id) (nx:Nat) {T:Type}(S:T→St) (I:T→Prop) (m:T→Nat) (t0:T)
  (hI:I t0) (h0:gh gs σ fun σ=>VH ks is nx l σ (·=S t0))
  (hr:∀t,I t→ex (S t) fun e σ2=>match e with
   | .normal=>∃n' σ3,n'<m t∧CH σ2 σ3∧∃t',I t'∧n'=m t'∧σ3=S t'
   | .exit id=>K (.exit id) σ2
   | .ret=>K .ret σ2):M.lock fun _=>VB ex σ K∨∃n,Hd ex K n σ:=by
 refine (M.lock_iff _).2<| .inl ⟨fun n σ=>∃t,I t∧n=m t∧σ=S t,m t0,?_,?_⟩
 ·obtain⟨σ1,hw1,h1⟩:=GB h0
  obtain⟨σ',hw,e⟩:=Mq h1
  exact⟨σ',CH.trans hw1 hw,t0,hI,rfl,e⟩
 ·rintro n σ1 ⟨t,h1,rfl,rfl⟩
  exact hr t h1
theorem UW {T:Type}{m:T→Nat}{I:T→Prop}{S:T→St}{σ2:St}{k:Nat}(t':T) (gs:List Gh) (l:List (Nat×Nat)) (ks:List Nat) (is:List Id) (nx:Nat) (hI:I t') (hm:m t'<k)
  (hk:gh gs σ2 fun σ=>VH ks is nx l σ (·=S t')):∃n' σ3,n'<k∧CH σ2 σ3∧∃t',I t'∧n'=m t'∧σ3=S t':=by
 obtain⟨σ1,hw1,h1⟩:=GB hk
 obtain⟨σ',hw,e⟩:=Mq h1
 exact⟨m t',σ',hm,CH.trans hw1 hw,t',hI,rfl,e⟩
section
variable {w:World}{Z Z' X:Aq}{g g':AW}{h h':Heap}
end
end Go.AM
namespace Go.AM
open Go Go.RowKit
inductive Shape (ti:Types):TypeId→List D→Prop where
 | bool {t x} (b:Bool) (h:ti t=some x) (hd:x.desc= .bool):Shape ti t [.bool b]
 | int {t x k} (n:Int) (h:ti t=some x) (hd:x.desc= .int k) (hw:(Lit.int k n).wf=true):Shape ti t [.int k n]
 | str {t x} (s:ByteArray) (h:ti t=some x) (hd:x.desc= .string) (hs:s.size≤maxLen):Shape ti t [.str s]
 | slice {t x e y} (rows:List D) (h:ti t=some x) (hd:x.desc= .slice e) (he:ti e=some y) (hl:rows.length≤maxLen)
   (hf:∀r∈rows,r.fits (Aj y.desc) y.size) (hr:∀r∈rows,Shape ti e r.cells):Shape ti t [.list (Aj y.desc) y.size rows]
 | struct {t x fs} (ds:List D) (h:ti t=some x) (hd:x.desc= .struct fs) (hl:ds.length=x.size) (hg:∀c∈ds,c.isAgg=false)
   (hr:∀f∈fs.toList,∀y,ti f.type=some y→Shape ti f.type ((ds.drop f.offset).take y.size)):Shape ti t ds
def chain (ti:Types):Nat→List Field→Option Nat
 | off,[]=>some off
 | off,f::r=>if f.offset=off then match ti f.type with
   | some y=>chain ti (off+y.size) r
   | none=>none
  else none
theorem SM {ti:Types}:∀{fs:List Field}{off tot:Nat},chain ti off fs=some tot→off≤tot∧∀f∈fs,off≤f.offset∧∃y,ti f.type=some y
 | [],off,tot,h=>by simp[chain]at h;subst h;exact⟨Nat.le_refl _,by simp⟩
 | f::fs,off,tot,h=>by
  unfold chain at h
  split at h
  ·rename_i ho
   split at h
   ·rename_i y hy
    obtain⟨h1,h2⟩:=SM h
    refine⟨by omega,fun f' hf'=>?_⟩
    rcases List.mem_cons.1 hf' with rfl | hf'
    ·exact⟨by omega,y,hy⟩
    ·exact⟨by have:=(h2 f' hf').1;omega,(h2 f' hf').2⟩
   ·simp at h
  ·simp at h
def Mr (ti:Types) (T:List TypeId):Bool:=
 T.all fun t=>match ti t with
  | some x=>match x.desc with
   | .bool | .int _ | .string=>x.size==1
   | .slice e=>T.contains e&&(x.size==1)&&(match ti e with
    | some y=>decide (0<y.size)&&(Aj y.desc || y.size==1)
    | none=>false)
   | .struct fs=>(chain ti 0 fs.toList==some x.size)&&fs.toList.all fun f=>T.contains f.type
   | _=>false
  | none=>false
theorem Ky {Q:Nat→D→Prop}:∀n,(∀i,i<n→∃r,Q i r)→∃l:List D,l.length=n∧∀i r,l[i]?=some r→Q i r
 | 0,_=>⟨[],rfl,by simp⟩
 | n+1,h=>by
  obtain⟨l,h1,h2⟩:=Ky n (fun i hi=>h i (by omega))
  obtain⟨r,hr⟩:=h n (by omega)
  refine⟨l++[r],by simp[h1],fun i r' hi=>?_⟩
  by_cases hl:i<l.length
  ·rw[List.getElem?_append_left hl]at hi;exact h2 i r' hi
  ·rw[List.getElem?_append_right (by omega)]at hi
   have hin:i=n:=by
    by_cases he:i=n
    ·exact he
    ·rw[List.getElem?_eq_none (by simp;omega)]at hi;simp at hi
   subst hin
   rw[h1]at hi
   simp at hi
   subst hi
   exact hr
def SN (w:World) (Z:Aq) (ds:List D) (cs:List Value):Prop:=
 ds.length=cs.length∧(∀c∈ds,c.isAgg=false)∧∀(j:Nat) c u,ds[j]?=some c→cs[j]?=some u→Ad w Z c u
theorem Fv {w:World}{Z:Aq}{c:D}{u:Value}(hc:c.isAgg=false) (h:Ad w Z c u):SN w Z [c] [u]:=
 ⟨rfl,by simpa using hc,fun j c' u' h1 h2=>by
  match j with
  | 0=>simp at h1 h2;subst h1;subst h2;exact h
  | j+1=>simp at h1⟩
theorem K2 {w:World}{Z:Aq}{ti:Types}{cs:List Value}:∀(fs:List Field) (off tot:Nat),chain ti off fs=some tot→tot≤cs.length→
  (∀f∈fs,∀y,ti f.type=some y→∃ds,Shape ti f.type ds∧SN w Z ds ((cs.drop f.offset).take y.size))→
  ∃ds,SN w Z ds ((cs.drop off).take (tot - off))∧∀f∈fs,∀y,ti f.type=some y→Shape ti f.type ((ds.drop (f.offset - off)).take y.size)
 | [],off,tot,h,_,_=>by
  simp[chain]at h
  subst h
  exact⟨[],⟨by simp,by simp,by simp⟩,by simp⟩
 | f::fs,off,tot,h,hl,hx=>by
  unfold chain at h
  split at h
  ·rename_i ho
   split at h
   ·rename_i y hy
    obtain⟨hle,hoff⟩:=SM h
    obtain⟨ds',⟨a1,a2,a3⟩,hs'⟩:=K2 fs _ tot h hl (fun f' hf'=>hx f' (List.mem_cons_of_mem _ hf'))
    obtain⟨p,hp,b1,b2,b3⟩:=hx f (by simp) y hy
    rw[ho]at b1 b3
    have hpl:p.length=y.size:=by rw[b1];simp;omega
    refine⟨p++ds',⟨?_,?_,?_⟩,fun f' hf' y' hy'=>?_⟩
    ·simp at a1 ⊢;omega
    ·intro c hc
     rcases List.mem_append.1 hc with hc | hc
     ·exact b2 c hc
     ·exact a2 c hc
    ·intro j c u hc hu
     rw[List.getElem?_take]at hu
     split at hu
     ·rename_i hj
      rw[List.getElem?_drop]at hu
      by_cases hjp:j<p.length
      ·rw[List.getElem?_append_left hjp]at hc
       refine b3 j c u hc ?_
       rw[List.getElem?_take,if_pos (by omega),List.getElem?_drop];exact hu
      ·rw[List.getElem?_append_right (by omega)]at hc
       refine a3 (j - p.length) c u hc ?_
       rw[List.getElem?_take,if_pos (by omega),List.getElem?_drop,←hu]
       congr 1
       omega
     ·simp at hu
    ·rcases List.mem_cons.1 hf' with rfl | hf'
     ·rw[hy]at hy'
      obtain rfl:y=y':=by simpa using hy'
      rw[ho,Nat.sub_self,List.drop_zero,List.take_append_of_le_length (by omega),List.take_of_length_le (by omega)]
      exact hp
     ·have h1:=(hoff f' hf').1
      have:=hs' f' hf' y' hy'
      rw[List.drop_append,List.drop_of_length_le (by omega),List.nil_append]
      rw[show f'.offset - off - p.length=f'.offset - (off+y.size)from by omega]
      exact this
   ·simp at h
  ·simp at h
theorem IX {P:Program}{ti:Types}(hti:BN P ti) {t:TypeId}{x:TI}(h:ti t=some x):P.cellsOf t=x.size:=by
 obtain⟨_,i,h1,h2,_⟩:=hti t x h
 simp[Program.cellsOf,h1,h2]
theorem conv {H:Type}{enc:TypeId×Value→H}{P:Program}{ti:Types}(hti:BN P ti) {T:List TypeId}(hT:Mr ti T=true) {w:World}{base:Nat}{spare:Nat→Bool}{held:Bool}{Z:Aq}(hZ:∀b o,¬Z b o):
  ∀(fuel:Nat) (t:TypeId) (cs:List Value) (d:DataW H) (ps:List MemPlace),t∈T→DataW.trod enc P w base spare held fuel t cs=some (d,ps)→∃ds,Shape ti t ds∧SN w Z ds cs
 | 0,t,cs,d,ps,_,h=>by simp[DataW.trod]at h
 | fuel+1,t,cs,d,ps,ht,h=>by
  have hp:=hT
  unfold Mr at hp
  have hp:=List.all_eq_true.1 hp t ht
  split at hp
  ·rename_i x hx
   have hu:=(hti t x hx).1
   have hcs:=IX hti hx
   split at hp
   ·rename_i hd
    rw[hd]at hu
    unfold DataW.trod at h
    simp only[hu]at h
    split at h<;>simp_all
    exact⟨_,.bool _ hx hd,Fv rfl (.bool _)⟩
   ·rename_i k hd
    rw[hd]at hu
    unfold DataW.trod at h
    simp only[hu]at h
    split at h<;>simp_all
    obtain⟨⟨rfl,hw⟩,_⟩:=h
    exact⟨_,.int _ hx hd hw,Fv rfl (.int _ _)⟩
   ·rename_i hd
    rw[hd]at hu
    unfold DataW.trod at h
    simp only[hu]at h
    split at h<;>simp_all
    exact⟨_,.str _ hx hd h.1,Fv rfl (.str _)⟩
   ·rename_i e hd
    rw[hd]at hu
    simp only[Bool.and_eq_true]at hp
    obtain⟨⟨he,_⟩,hp⟩:=hp
    have he:e∈T:=by simpa using he
    split at hp
    ·rename_i y hy
     simp only[Bool.and_eq_true,decide_eq_true_eq]at hp
     have hey:=IX hti hy
     unfold DataW.trod at h
     simp only[hu]at h
     split at h<;>rename_i hq<;>try cases hq
     ·exact⟨_,.slice [] hx hd hy (by simp) (by simp) (by simp),Fv rfl (Ff _ _)⟩
     ·rename_i a len cap
      rw[hey]at h
      split at h
      ·rename_i hg
       obtain⟨elems,he1,_⟩:=Option.bind_eq_some_iff.1 h
       have hel:elems.length=len:=by simpa using mapM_some_length he1
       have each:∀i,i<len→∃cs' ds,(w.cells? base (a.add (i*y.size)) y.size)=some cs'∧Shape ti e ds∧SN w Z ds cs':=by
        intro i hi
        have h1:=mapM_some_get he1 i i (by simp[hi])
        rw[List.getElem?_eq_getElem (by omega:i<elems.length)]at h1
        obtain⟨cs',h2,h3⟩:=Option.bind_eq_some_iff.1 h1
        obtain⟨ds,h4,h5⟩:=conv hti hT hZ fuel e cs' _ _ he h3
        exact⟨cs',ds,h2,h4,h5⟩
       have hspot:0<len→a.spot=none:=by
        intro hl
        obtain⟨cs',_,h2,_⟩:=each 0 hl
        obtain⟨_,h3,h4⟩:=World.cells?_some h2
        have h5:=h4 0 hp.1
        rw[List.getElem?_eq_getElem (by omega)]at h5
        simp only[Nat.zero_mul,Addr.add,if_true]at h5
        unfold World.cell? at h5
        split at h5
        ·split at h5
         ·cases h5
         ·rename_i hs;simpa using hs
        ·cases h5
       obtain⟨rows,hrl,hrows⟩:=Ky (Q:=fun i r=>r.fits (Aj y.desc) y.size∧Shape ti e r.cells∧∀(j:Nat) c,r.cells[j]?=some c→
         ∃u,w.cell? ⟨a.block,a.off+(i*y.size+j),none⟩=some u∧Ad w Z c u) len (fun i hi=>by
        obtain⟨cs',ds,h2,h3,h4⟩:=each i hi
        obtain⟨_,h5,h6⟩:=World.cells?_some h2
        have hdl:ds.length=y.size:=h4.1.trans h5
        obtain⟨r,hr1,hr2⟩:∃r:D,r.cells=ds∧r.isAgg=Aj y.desc:=by
         cases hrw:Aj y.desc with
         | true=>exact⟨.agg ds,rfl,rfl⟩
         | false=>
          rw[hrw]at hp
          have:y.size=1:=by simpa using hp.2
          obtain⟨c,rfl⟩:=List.length_eq_one_iff.1 (hdl.trans this)
          have hc:=h4.2.1 c (by simp)
          exact⟨c,by cases c<;>first | rfl | simp[D.isAgg]at hc,hc⟩
        refine⟨r,⟨hr2,by rw[hr1,hdl],by rw[hr1];exact h4.2.1⟩,by rw[hr1];exact h3,fun j c hc=>?_⟩
        rw[hr1]at hc
        have hj:j<y.size:=by rw[←hdl];exact (List.getElem?_eq_some_iff.1 hc).1
        have h7:=h6 j hj
        have ha:(a.add (i*y.size)).add j=⟨a.block,a.off+(i*y.size+j),none⟩:=by
         have:=hspot (by omega)
         obtain⟨ab,ao,asp⟩:=a
         simp only at this
         subst this
         unfold Addr.add
         split<;>split<;>simp_all<;>omega
        rw[ha,List.getElem?_eq_getElem (by omega:j<cs'.length)]at h7
        exact⟨_,h7,h4.2.2 j c _ hc (List.getElem?_eq_getElem (by omega:j<cs'.length))⟩)
       refine⟨_,.slice rows hx hd hy (by omega) (fun r hr=>?_) (fun r hr=>?_),Fv rfl ?_⟩
       ·obtain⟨i,hi⟩:=List.mem_iff_getElem?.1 hr
        exact (hrows i r hi).1
       ·obtain⟨i,hi⟩:=List.mem_iff_getElem?.1 hr
        exact (hrows i r hi).2.1
       ·rw[←hrl]
        refine .list _ _ rows (some a) cap a.block a.off (fun i j=>(w.cell? ⟨a.block,a.off+(i*y.size+j),none⟩).getD undef) (by omega) hg.2.2 (fun r hr=>?_) (fun hne=>?_) (fun i r j c hr hc=>?_) (fun i r j c hr hc=>?_)
        ·obtain⟨i,hi⟩:=List.mem_iff_getElem?.1 hr
         exact (hrows i r hi).1
        ·have:=hspot (by rw[←hrl];exact List.length_pos_iff.2 hne)
         obtain⟨ab,ao,asp⟩:=a
         simp only at this
         rw[this]
        ·obtain⟨u,hu1,_⟩:=(hrows i r hr).2.2 j c hc
         rw[hu1]
         exact⟨rfl,hZ _ _⟩
        ·obtain⟨u,hu1,hu2⟩:=(hrows i r hr).2.2 j c hc
         rw[hu1]
         exact hu2
      ·cases h
     ·cases h
    ·simp at hp
   ·rename_i fs hd
    rw[hd]at hu
    simp only[Bool.and_eq_true,beq_iff_eq]at hp
    obtain⟨hch,hfs⟩:=hp
    unfold DataW.trod at h
    simp only[hu]at h
    split at h<;>rename_i hq<;>try cases hq
    ·obtain⟨xs,hxs,_⟩:=Option.map_eq_some_iff.1 h
     obtain⟨ds,h1,h2⟩:=K2 (w:=w) (Z:=Z) (cs:=cs) fs.toList 0 x.size hch (by omega) (fun f hf y hy=>by
      obtain⟨i,hi⟩:=List.mem_iff_getElem?.1 hf
      have h3:=mapM_some_get hxs i f hi
      have hil:i<xs.length:=by rw[mapM_some_length hxs];exact (List.getElem?_eq_some_iff.1 hi).1
      rw[List.getElem?_eq_getElem hil,IX hti hy]at h3
      have hfT:f.type∈T:=by simpa using List.all_eq_true.1 hfs f hf
      exact conv hti hT hZ fuel f.type _ _ _ hfT h3)
     rw[List.drop_zero,Nat.sub_zero,List.take_of_length_le (by omega)]at h1
     exact⟨ds,.struct ds hx hd (by rw[h1.1];omega) h1.2.1 (fun f hf y hy=>by simpa using h2 f hf y hy),h1⟩
    ·cases h
   ·simp at hp
  ·simp at hp
end Go.AM
namespace Go.AM
open Go
structure ZE (L L':List D) (r:Nat→Bool) (R:Bool):Prop where
 len:L.length≠L'.length→R=false
 bad:∀i,i<L.length→i<L'.length→r i=false→R=false
 good:L.length=L'.length→(∀i,i<L.length→r i=true)→R=true
theorem ZE.of (L L':List D) (r:Nat→Bool):ZE L L' r (decide (L.length=L'.length∧∀i,i<L.length→r i=true)) where
 len h:=by simp[h]
 bad i h1 h2 h:=by
  rw[decide_eq_false_iff_not]
  rintro⟨_,h3⟩
  rw[h3 i h1]at h
  cases h
 good h1 h2:=by rw[decide_eq_true_iff];exact⟨h1,h2⟩
section
variable {ti:Types}{t e:TypeId}{x y:TI}{ds:List D}{fs:Array Field}{k:IntKind}
theorem Shape.Z9 (h:Shape ti t ds) (hx:ti t=some x) (hd:x.desc= .int k):∃n,ds=[.int k n]∧(Lit.int k n).wf=true:=by
 cases h<;>simp_all
theorem Shape.aB (h:Shape ti t ds) (hx:ti t=some x) (hd:x.desc= .string):∃s,ds=[.str s]∧s.size≤maxLen:=by
 cases h<;>simp_all
theorem Shape.Wu (h:Shape ti t ds) (hx:ti t=some x) (hd:x.desc= .slice e) (hy:ti e=some y):
  ∃rows,ds=[.list (Aj y.desc) y.size rows]∧rows.length≤maxLen∧(∀r∈rows,r.fits (Aj y.desc) y.size)∧∀r∈rows,Shape ti e r.cells:=by
 cases h with
 | slice rows h1 h2 h3 h4 h5 h6=>
  rw[hx]at h1
  obtain rfl:=Option.some.inj h1
  rw[hd]at h2
  obtain rfl:=TypeDesc.slice.inj h2
  rw[hy]at h3
  obtain rfl:=Option.some.inj h3
  exact⟨rows,rfl,h4,h5,h6⟩
 | _=>simp_all
theorem Shape.Uu (h:Shape ti t ds) (hx:ti t=some x) (hd:x.desc= .struct fs):
  ds.length=x.size∧(∀c∈ds,c.isAgg=false)∧∀f∈fs.toList,∀y,ti f.type=some y→Shape ti f.type ((ds.drop f.offset).take y.size):=by
 cases h with
 | struct ds h1 h2 h3 h4 h5=>
  rw[hx]at h1
  obtain rfl:=Option.some.inj h1
  rw[hd]at h2
  obtain rfl:=TypeDesc.struct.inj h2
  exact⟨h3,h4,h5⟩
 | _=>simp_all
end
open Classical in
theorem ZE.same (L L':List D):ZE L L' (fun i=>decide (L[i]?=L'[i]?)) (decide (L=L')) where
 len h:=by rw[decide_eq_false_iff_not];rintro rfl;exact h rfl
 bad i h1 h2 h:=by
  rw[decide_eq_false_iff_not]at h ⊢
  rintro rfl;exact h rfl
 good h1 h2:=by
  rw[decide_eq_true_iff]
  refine List.ext_getElem? fun i=>?_
  by_cases hi:i<L.length
  ·exact of_decide_eq_true (h2 i hi)
  ·rw[List.getElem?_eq_none (by omega),List.getElem?_eq_none (by omega)]
def CQ (ti:Types) (t:TypeId):TI:=
 match ti t with
 | some x=>x
 | none=>⟨.bool,0,0,.bool false,[]⟩
theorem EA {a b:ByteArray}:(a.toList==b.toList)=true↔a=b:=by
 constructor
 ·intro h
  have h:=beq_iff_eq.1 h
  rw[ByteArray.toList_eq,ByteArray.toList_eq]at h
  exact ByteArray.ext (Array.ext' h)
 ·rintro rfl;simp
theorem toList_inj {a b:ByteArray}:a.toList=b.toList↔a=b:=by rw[←EA,beq_iff_eq]
theorem SO {a b:ByteArray}:(a.toList==b.toList)=false↔a≠b:=by
 rw[←Bool.not_eq_true,EA]
end Go.AM
namespace Go.AM
open Go
section
variable {α γ:Type}
def AE (z:Int) (k:Int→Option γ):Option γ:=k z
theorem Aa {z:Int}{k:Int→Option γ}{r:γ}(h:AE z k=some r):∃y,z=y∧k y=some r:=⟨z,rfl,h⟩
def AB (L:List D) (k:Int→Option γ):Option γ:=k L.length
theorem BQ (M:BO) {L:List D}{k:Int→Option γ}{r:γ}(h:AB L k=some r):∃y,M.lenI L=y∧k y=some r:=⟨L.length,M.lenI_eq L,h⟩
def Ns (s:ByteArray) (k:Int→Option γ):Option γ:=k s.size
theorem ZF (M:BO) {s:ByteArray}{k:Int→Option γ}{r:γ}(h:Ns s k=some r):∃y,M.szI s=y∧k y=some r:=⟨s.size,M.szI_eq s,h⟩
def Ae (L:List D) (i:Int) (k:D→Option γ):Option γ:=if 0≤i then (match L[i.toNat]? with | some x=>k x | none=>none)else none
theorem Az {L:List D}{i:Int}{k:D→Option γ}{r:γ}(h:Ae L i k=some r):∃x,(0≤i∧L[i.toNat]?=some x)∧k x=some r:=by
 unfold Ae at h
 split at h
 ·rename_i h0
  split at h
  ·rename_i x hx
   exact⟨x,⟨h0,hx⟩,h⟩
  ·cases h
 ·cases h
theorem Wb {L:List D}{i:Int}{k:D→Option γ}{x:D}(h0:0≤i) (hx:L[i.toNat]?=some x):Ae L i k=k x:=by
 unfold Ae
 rw[if_pos h0,hx]
theorem Ag {p:Prop} [Decidable p] {x y r:Option γ}(hp:p) (h:(if p then x else y)=r):x=r:=by rwa [if_pos hp]at h
theorem Ah {p:Prop} [Decidable p] {x y r:Option γ}(hp:¬p) (h:(if p then x else y)=r):y=r:=by rwa [if_neg hp]at h
def Hp (b:Nat) (L M:List D) (k:List D→Option γ):Option γ:=if L.length+M.length≤maxLen∧(L.length+M.length)*b≤140737488355328 then k (L++M)else none
theorem DX {b:Nat}{L M:List D}{k:List D→Option γ}{r:γ}(h:Hp b L M k=some r):∃out,(L.length+M.length≤maxLen∧(L.length+M.length)*b≤140737488355328)∧L++M=out∧k out=some r:=by
 unfold Hp at h
 split at h
 ·rename_i hb
  exact⟨_,hb,rfl,h⟩
 ·cases h
def Tu (s:ByteArray) (i:Int) (k:Int→Option γ):Option γ:=if 0≤i then (match (s[i.toNat]?).map (fun u=>(u.toNat:Int))with | some z=>k z | none=>none)else none
theorem ZG {s:ByteArray}{i:Int}{k:Int→Option γ}{r:γ}(h:Tu s i k=some r):∃z,(0≤i∧(s[i.toNat]?).map (fun u=>(u.toNat:Int))=some z)∧k z=some r:=by
 unfold Tu at h
 split at h
 ·rename_i h0
  split at h
  ·rename_i z hz
   exact⟨z,⟨h0,hz⟩,h⟩
  ·cases h
 ·cases h
def cK (s t:ByteArray) (k:ByteArray→Option γ):Option γ:=if ((s.size+t.size:Nat):Int)≤IntKind.i64.max then k (s++t)else none
theorem XY {s t:ByteArray}{k:ByteArray→Option γ}{r:γ}(h:cK s t k=some r):∃out,s++t=out∧((s.size+t.size:Nat):Int)≤IntKind.i64.max∧k out=some r:=by
 unfold cK at h
 split at h
 ·rename_i hb
  exact⟨_,rfl,hb,h⟩
 ·cases h
def bO1 {A1:Type}(x:Option (A1)) (k:A1→Option γ):Option γ:=match x with | some p=>k p | none=>none
theorem Ai {A1:Type}{x:Option (A1)}{k:A1→Option γ}{r:γ}(h:bO1 x k=some r):∃a1,x=some a1∧k a1=some r:=by
 cases x with
 | none=>cases h
 | some p=>exact⟨_,rfl,h⟩
def bO2 {A1 A2:Type}(x:Option (A1×A2)) (k:A1→A2→Option γ):Option γ:=match x with | some p=>k p.1 p.2 | none=>none
theorem JC {A1 A2:Type}{x:Option (A1×A2)}{k:A1→A2→Option γ}{r:γ}(h:bO2 x k=some r):∃a1 a2,x=some (a1,a2)∧k a1 a2=some r:=by
 cases x with
 | none=>cases h
 | some p=>exact⟨_,_,rfl,h⟩
theorem XZ {A1 A2:Type}{a1 b1:A1}{a2 b2:A2}(h:some (a1,a2)=some (b1,b2)):a1=b1∧a2=b2:=by
 cases h
 exact⟨rfl,rfl⟩
def bO3 {A1 A2 A3:Type}(x:Option (A1×A2×A3)) (k:A1→A2→A3→Option γ):Option γ:=match x with | some p=>k p.1 p.2.1 p.2.2 | none=>none
theorem Lq {A1 A2 A3:Type}{x:Option (A1×A2×A3)}{k:A1→A2→A3→Option γ}{r:γ}(h:bO3 x k=some r):∃a1 a2 a3,x=some (a1,a2,a3)∧k a1 a2 a3=some r:=by
 cases x with
 | none=>cases h
 | some p=>exact⟨_,_,_,rfl,h⟩
theorem QR {A1 A2 A3:Type}{a1 b1:A1}{a2 b2:A2}{a3 b3:A3}(h:some (a1,a2,a3)=some (b1,b2,b3)):a1=b1∧a2=b2∧a3=b3:=by
 cases h
 exact⟨rfl,rfl,rfl⟩
def bO4 {A1 A2 A3 A4:Type}(x:Option (A1×A2×A3×A4)) (k:A1→A2→A3→A4→Option γ):Option γ:=match x with | some p=>k p.1 p.2.1 p.2.2.1 p.2.2.2 | none=>none
theorem QS {A1 A2 A3 A4:Type}{a1 b1:A1}{a2 b2:A2}{a3 b3:A3}{a4 b4:A4}(h:some (a1,a2,a3,a4)=some (b1,b2,b3,b4)):a1=b1∧a2=b2∧a3=b3∧a4=b4:=by
 cases h
 exact⟨rfl,rfl,rfl,rfl⟩
def bO7 {A1 A2 A3 A4 A5 A6 A7:Type}(x:Option (A1×A2×A3×A4×A5×A6×A7)) (k:A1→A2→A3→A4→A5→A6→A7→Option γ):Option γ:=match x with | some p=>k p.1 p.2.1 p.2.2.1 p.2.2.2.1 p.2.2.2.2.1 p.2.2.2.2.2.1 p.2.2.2.2.2.2 | none=>none
def bO8 {A1 A2 A3 A4 A5 A6 A7 A8:Type}(x:Option (A1×A2×A3×A4×A5×A6×A7×A8)) (k:A1→A2→A3→A4→A5→A6→A7→A8→Option γ):Option γ:=match x with | some p=>k p.1 p.2.1 p.2.2.1 p.2.2.2.1 p.2.2.2.2.1 p.2.2.2.2.2.1 p.2.2.2.2.2.2.1 p.2.2.2.2.2.2.2 | none=>none
theorem QT {A1 A2 A3 A4 A5 A6 A7 A8:Type}{x:Option (A1×A2×A3×A4×A5×A6×A7×A8)}{k:A1→A2→A3→A4→A5→A6→A7→A8→Option γ}{r:γ}(h:bO8 x k=some r):∃a1 a2 a3 a4 a5 a6 a7 a8,x=some (a1,a2,a3,a4,a5,a6,a7,a8)∧k a1 a2 a3 a4 a5 a6 a7 a8=some r:=by
 cases x with
 | none=>cases h
 | some p=>exact⟨_,_,_,_,_,_,_,_,rfl,h⟩
theorem nJ {A1 A2 A3 A4 A5 A6 A7 A8:Type}{a1 b1:A1}{a2 b2:A2}{a3 b3:A3}{a4 b4:A4}{a5 b5:A5}{a6 b6:A6}{a7 b7:A7}{a8 b8:A8}(h:some (a1,a2,a3,a4,a5,a6,a7,a8)=some (b1,b2,b3,b4,b5,b6,b7,b8)):a1=b1∧a2=b2∧a3=b3∧a4=b4∧a5=b5∧a6=b6∧a7=b7∧a8=b8:=by
 cases h
 exact⟨rfl,rfl,rfl,rfl,rfl,rfl,rfl,rfl⟩
def bO10 {A1 A2 A3 A4 A5 A6 A7 A8 A9 A10:Type}(x:Option (A1×A2×A3×A4×A5×A6×A7×A8×A9×A10)) (k:A1→A2→A3→A4→A5→A6→A7→A8→A9→A10→Option γ):Option γ:=match x with | some p=>k p.1 p.2.1 p.2.2.1 p.2.2.2.1 p.2.2.2.2.1 p.2.2.2.2.2.1 p.2.2.2.2.2.2.1 p.2.2.2.2.2.2.2.1 p.2.2.2.2.2.2.2.2.1 p.2.2.2.2.2.2.2.2.2 | none=>none
theorem Eg {A1 A2 A3 A4 A5 A6 A7 A8 A9 A10:Type}{a1 b1:A1}{a2 b2:A2}{a3 b3:A3}{a4 b4:A4}{a5 b5:A5}{a6 b6:A6}{a7 b7:A7}{a8 b8:A8}{a9 b9:A9}{a10 b10:A10}(h:some (a1,a2,a3,a4,a5,a6,a7,a8,a9,a10)=some (b1,b2,b3,b4,b5,b6,b7,b8,b9,b10)):a1=b1∧a2=b2∧a3=b3∧a4=b4∧a5=b5∧a6=b6∧a7=b7∧a8=b8∧a9=b9∧a10=b10:=by
 cases h
 exact⟨rfl,rfl,rfl,rfl,rfl,rfl,rfl,rfl,rfl,rfl⟩
def bO15 {A1 A2 A3 A4 A5 A6 A7 A8 A9 A10 A11 A12 A13 A14 A15:Type}(x:Option (A1×A2×A3×A4×A5×A6×A7×A8×A9×A10×A11×A12×A13×A14×A15)) (k:A1→A2→A3→A4→A5→A6→A7→A8→A9→A10→A11→A12→A13→A14→A15→Option γ):Option γ:=match x with | some p=>k p.1 p.2.1 p.2.2.1 p.2.2.2.1 p.2.2.2.2.1 p.2.2.2.2.2.1 p.2.2.2.2.2.2.1 p.2.2.2.2.2.2.2.1 p.2.2.2.2.2.2.2.2.1 p.2.2.2.2.2.2.2.2.2.1 p.2.2.2.2.2.2.2.2.2.2.1 p.2.2.2.2.2.2.2.2.2.2.2.1 p.2.2.2.2.2.2.2.2.2.2.2.2.1 p.2.2.2.2.2.2.2.2.2.2.2.2.2.1 p.2.2.2.2.2.2.2.2.2.2.2.2.2.2 | none=>none
theorem SP {A1 A2 A3 A4 A5 A6 A7 A8 A9 A10 A11 A12 A13 A14 A15:Type}{x:Option (A1×A2×A3×A4×A5×A6×A7×A8×A9×A10×A11×A12×A13×A14×A15)}{k:A1→A2→A3→A4→A5→A6→A7→A8→A9→A10→A11→A12→A13→A14→A15→Option γ}{r:γ}(h:bO15 x k=some r):∃a1 a2 a3 a4 a5 a6 a7 a8 a9 a10 a11 a12 a13 a14 a15,x=some (a1,a2,a3,a4,a5,a6,a7,a8,a9,a10,a11,a12,a13,a14,a15)∧k a1 a2 a3 a4 a5 a6 a7 a8 a9 a10 a11 a12 a13 a14 a15=some r:=by
 cases x with
 | none=>cases h
 | some p=>exact⟨_,_,_,_,_,_,_,_,_,_,_,_,_,_,_,rfl,h⟩
def bO16 {A1 A2 A3 A4 A5 A6 A7 A8 A9 A10 A11 A12 A13 A14 A15 A16:Type}(x:Option (A1×A2×A3×A4×A5×A6×A7×A8×A9×A10×A11×A12×A13×A14×A15×A16)) (k:A1→A2→A3→A4→A5→A6→A7→A8→A9→A10→A11→A12→A13→A14→A15→A16→Option γ):Option γ:=match x with | some p=>k p.1 p.2.1 p.2.2.1 p.2.2.2.1 p.2.2.2.2.1 p.2.2.2.2.2.1 p.2.2.2.2.2.2.1 p.2.2.2.2.2.2.2.1 p.2.2.2.2.2.2.2.2.1 p.2.2.2.2.2.2.2.2.2.1 p.2.2.2.2.2.2.2.2.2.2.1 p.2.2.2.2.2.2.2.2.2.2.2.1 p.2.2.2.2.2.2.2.2.2.2.2.2.1 p.2.2.2.2.2.2.2.2.2.2.2.2.2.1 p.2.2.2.2.2.2.2.2.2.2.2.2.2.2.1 p.2.2.2.2.2.2.2.2.2.2.2.2.2.2.2 | none=>none
theorem SQ {A1 A2 A3 A4 A5 A6 A7 A8 A9 A10 A11 A12 A13 A14 A15 A16:Type}{x:Option (A1×A2×A3×A4×A5×A6×A7×A8×A9×A10×A11×A12×A13×A14×A15×A16)}{k:A1→A2→A3→A4→A5→A6→A7→A8→A9→A10→A11→A12→A13→A14→A15→A16→Option γ}{r:γ}(h:bO16 x k=some r):∃a1 a2 a3 a4 a5 a6 a7 a8 a9 a10 a11 a12 a13 a14 a15 a16,x=some (a1,a2,a3,a4,a5,a6,a7,a8,a9,a10,a11,a12,a13,a14,a15,a16)∧k a1 a2 a3 a4 a5 a6 a7 a8 a9 a10 a11 a12 a13 a14 a15 a16=some r:=by
 cases x with
 | none=>cases h
 | some p=>exact⟨_,_,_,_,_,_,_,_,_,_,_,_,_,_,_,_,rfl,h⟩
theorem aZ {A1 A2 A3 A4 A5 A6 A7 A8 A9 A10 A11 A12 A13 A14 A15 A16:Type}{a1 b1:A1}{a2 b2:A2}{a3 b3:A3}{a4 b4:A4}{a5 b5:A5}{a6 b6:A6}{a7 b7:A7}{a8 b8:A8}{a9 b9:A9}{a10 b10:A10}{a11 b11:A11}{a12 b12:A12}{a13 b13:A13}{a14 b14:A14}{a15 b15:A15}{a16 b16:A16}(h:some (a1,a2,a3,a4,a5,a6,a7,a8,a9,a10,a11,a12,a13,a14,a15,a16)=some (b1,b2,b3,b4,b5,b6,b7,b8,b9,b10,b11,b12,b13,b14,b15,b16)):a1=b1∧a2=b2∧a3=b3∧a4=b4∧a5=b5∧a6=b6∧a7=b7∧a8=b8∧a9=b9∧a10=b10∧a11=b11∧a12=b12∧a13=b13∧a14=b14∧a15=b15∧a16=b16:=by
 cases h
 exact⟨rfl,rfl,rfl,rfl,rfl,rfl,rfl,rfl,rfl,rfl,rfl,rfl,rfl,rfl,rfl,rfl⟩
def bO18 {A1 A2 A3 A4 A5 A6 A7 A8 A9 A10 A11 A12 A13 A14 A15 A16 A17 A18:Type}(x:Option (A1×A2×A3×A4×A5×A6×A7×A8×A9×A10×A11×A12×A13×A14×A15×A16×A17×A18)) (k:A1→A2→A3→A4→A5→A6→A7→A8→A9→A10→A11→A12→A13→A14→A15→A16→A17→A18→Option γ):Option γ:=match x with | some p=>k p.1 p.2.1 p.2.2.1 p.2.2.2.1 p.2.2.2.2.1 p.2.2.2.2.2.1 p.2.2.2.2.2.2.1 p.2.2.2.2.2.2.2.1 p.2.2.2.2.2.2.2.2.1 p.2.2.2.2.2.2.2.2.2.1 p.2.2.2.2.2.2.2.2.2.2.1 p.2.2.2.2.2.2.2.2.2.2.2.1 p.2.2.2.2.2.2.2.2.2.2.2.2.1 p.2.2.2.2.2.2.2.2.2.2.2.2.2.1 p.2.2.2.2.2.2.2.2.2.2.2.2.2.2.1 p.2.2.2.2.2.2.2.2.2.2.2.2.2.2.2.1 p.2.2.2.2.2.2.2.2.2.2.2.2.2.2.2.2.1 p.2.2.2.2.2.2.2.2.2.2.2.2.2.2.2.2.2 | none=>none
theorem Ms {A1 A2 A3 A4 A5 A6 A7 A8 A9 A10 A11 A12 A13 A14 A15 A16 A17 A18:Type}{x:Option (A1×A2×A3×A4×A5×A6×A7×A8×A9×A10×A11×A12×A13×A14×A15×A16×A17×A18)}{k:A1→A2→A3→A4→A5→A6→A7→A8→A9→A10→A11→A12→A13→A14→A15→A16→A17→A18→Option γ}{r:γ}(h:bO18 x k=some r):∃a1 a2 a3 a4 a5 a6 a7 a8 a9 a10 a11 a12 a13 a14 a15 a16 a17 a18,x=some (a1,a2,a3,a4,a5,a6,a7,a8,a9,a10,a11,a12,a13,a14,a15,a16,a17,a18)∧k a1 a2 a3 a4 a5 a6 a7 a8 a9 a10 a11 a12 a13 a14 a15 a16 a17 a18=some r:=by
 cases x with
 | none=>cases h
 | some p=>exact⟨_,_,_,_,_,_,_,_,_,_,_,_,_,_,_,_,_,_,rfl,h⟩
end
end Go.AM
namespace Go.AM
open Go
def sI (n:Nat) (z:Int):Nat×AV:=(n,.v (.d (.int .i64 z)))
def sU (n:Nat) (z:Int):Nat×AV:=(n,.v (.d (.int .u8 z)))
def sB (n:Nat) (b:Bool):Nat×AV:=(n,.v (.d (.bool b)))
def sT (n s:Nat) (l:List D):Nat×AV:=(n,.v (.d (.list true s l)))
def sF (n s:Nat) (l:List D):Nat×AV:=(n,.v (.d (.list false s l)))
def sL (n i:Nat):Nat×AV:=(n,.v (.c (.ptr (.loc i) 0)))
def sE (n i:Nat):Nat×AV:=(n,.v (.c (.ptr (.ext i) 0)))
def sS (n:Nat) (b:ByteArray):Nat×AV:=(n,.v (.d (.str b)))
abbrev LD:=List D
abbrev BA:=ByteArray
theorem Bx {γ:Type}{x y r:Option γ}(h:(if true=true then x else y)=r):x=r:=h
theorem Bz {γ:Type}{x y r:Option γ}(h:(if false=true then x else y)=r):y=r:=h
end Go.AM
namespace Go.AM
open Go Go.RowKit
theorem BB.Ym {P:Program}{I:Inv}{f:FuncId}{xs:List D}{res:AV}(hf:∃fn c,P.funcs[f]?=some fn∧fn.body=some c∧(fn.name== "runtime.NumGoroutine")=false)
  (h:∀(w:World) (Z:Aq) (vals:Array Value),I.rel w→vals.size=xs.length→(∀(j:Nat) x v,xs[j]?=some x→vals[j]?=some v→Ad w Z x v)→
   Calls P f vals w fun e w'=>∃v,e= .returned v∧EF (fun _=>False) w w'∧∀Z' g' h',(∀b o,Z' b o→b<w.heap.size)→Ar w' Z' g' h' res v):BB P I f (xs.map V1.d) [] res [] []:=by
 refine BB.mk' hf fun w X g vals hX hI RH hg hsz hargs=>?_
 have none:∀{i o},Av [] i=some o→False:=by
  intro i o h
  cases i<;>simp[Av]at h
 have none2:∀{i o},Bi [] [] i=some o→False:=by
  intro i o h
  cases i<;>simp[Bi]at h
 refine (h w (BG (zone g (Av [])) X) vals hI.1 (by simpa using hsz) (fun j x v hx hv=>hargs j (.d x) v (by simp[hx]) hv)).mono ?_
 rintro e w' ⟨v,rfl,A,hr⟩
 refine⟨v,g,rfl,⟨⟨fun i o hi=>(none2 hi).elim,fun i j oi oj b hi=>(none2 hi).elim,fun i oi b o hi=>(none2 hi).elim⟩,hr _ _ _ ?_,?_,fun j=>.refl _,fun i ob b o hi=>(none2 hi).elim,fun k _=>hg k⟩⟩
 ·rintro b o (⟨i,ob,hi,_⟩ | hx)
  ·exact (none2 hi).elim
  ·exact hX b o hx
 ·exact⟨A.os,A.tape,A.output,A.size,fun b hb _=>A.block b hb id,fun b o u hu _=>A.cell hu id⟩
theorem UX {w w':World}(h:w'.os=w.os) (h1:w'.tape=w.tape) (h2:w'.output=w.output) (h3:w.heap.size≤w'.heap.size) (h4:∀b,b<w.heap.size→w'.heap[b]?=w.heap[b]?):EF (fun _=>False) w w':=
 ⟨h,h1,h2,h3,fun b hb _=>h4 b hb⟩
end Go.AM
namespace Go.AM
open Go Go.RowKit
section
variable {α β γ:Type}
def bS (x:Option (α ⊕ β)) (k1:α→Option γ) (k2:β→Option γ):Option γ:=
 match x with
 | some (.inl a)=>k1 a
 | some (.inr b)=>k2 b
 | none=>none
end
section
variable {γ:Type}
def AI (b:Bool) (k:Bool→Option γ):Option γ:=k b
theorem C5 {b:Bool}{k:Bool→Option γ}{r:γ}(h:AI b k=some r):∃y,b=y∧k y=some r:=⟨b,rfl,h⟩
def findF (e:Bool) (key:D) (rows:List D) (k1:D→Option γ) (k0:Option γ):Option γ:=
 match GX e key rows with
 | some (some y)=>k1 y
 | some none=>k0
 | none=>none
theorem Wc {e:Bool}{key:D}{rows:List D}{k1:D→Option γ}{k0:Option γ}{r:γ}(h:findF e key rows k1 k0=some r):(∃y,GX e key rows=some (some y)∧k1 y=some r)∨(GX e key rows=some none∧k0=some r):=by
 unfold findF at h
 split at h
 ·rename_i y hy
  exact .inl ⟨y,hy,h⟩
 ·rename_i hy
  exact .inr ⟨hy,h⟩
 ·cases h
def ZH (key:D) (ws rows:List D) (k:List D→Option γ):Option γ:=
 match P7 key ws rows with
 | some r=>k r
 | none=>none
theorem Xa {key:D}{ws rows:List D}{k:List D→Option γ}{r:γ}(h:ZH key ws rows k=some r):∃out,P7 key ws rows=some out∧k out=some r:=by
 unfold ZH at h
 split at h
 ·rename_i out ho
  exact⟨out,ho,h⟩
 ·cases h
end
def cL:Code→Code
 | .seq a _=>a
 | .cond _ a _=>a
 | .block _ b=>b
 | .loop b=>b
 | .rangeFunc _ _ a _=>a
 | c=>c
def cR:Code→Code
 | .seq _ b=>b
 | .cond _ _ b=>b
 | .rangeFunc _ _ _ b=>b
 | c=>c
def cP:Code→Array Tmp
 | .rangeFunc _ p _ _=>p
 | _=>#[]
def KI (fn:Func):Code:=
 match fn.body with
 | some c=>c
 | none=>.skip
def cM (s:AR):List (Nat×AV)→Prop
 | []=>True
 | (t,v)::r=>s t=v∧cM s r
theorem SR {s:AR}:∀{sl:List (Nat×AV)},cM s sl→∀t,Ab sl t= .u∨Ab sl t=s t
 | [],_,_=>.inl rfl
 | (k,v)::r,h,t=>by
  show (match Nat.beq k t with | true=>v | false=>Ab r t)= .u∨(match Nat.beq k t with | true=>v | false=>Ab r t)=s t
  cases e:Nat.beq k t with
  | true=>exact .inr (by rw[←Nat.eq_of_beq_eq_true e];exact h.1.symm)
  | false=>exact SR h.2 t
theorem D0 {a q:Bool}(h:(!a)=q):EP a=q:=by rw[DS];exact h
theorem AD {M:BO}{ea eb:St→(CD→St→Prop)→Prop}{σ:St}{K:CD→St→Prop}(h:ea σ fun e σ'=>match e with
  | .normal=>eb σ' K
  | .exit id=>K (.exit id) σ'
  | .ret=>K .ret σ'):M.lock fun _=>Y3 ea eb σ K:=(M.lock_iff _).2 (.inl h)
theorem CJ {M:BO}{ea eb:St→(CD→St→Prop)→Prop}{σ:St}{K:CD→St→Prop}{T:Type}(S:T→St) (I:T→Prop)
  (ha:ea σ fun e σ'=>match e with
   | .normal=>∃σ'',CH σ' σ''∧∃t,I t∧σ''=S t
   | .exit id=>K (.exit id) σ'
   | .ret=>K .ret σ') (hb:∀t,I t→eb (S t) K):M.lock fun _=>Y3 ea eb σ K:=by
 refine (M.lock_iff _).2 (.inr ⟨fun σ=>∃t,I t∧σ=S t,ha,?_⟩)
 rintro σ2 ⟨t,hi,rfl⟩
 exact hb t hi
theorem AA {T:Type}{I:T→Prop}{S:T→St}{σ2:St}(t':T) (ks:List Nat) (is:List Id) (nx:Nat) (hI:I t') (hk:LZ ks is nx σ2 (·=S t')):
  ∃σ'',CH σ2 σ''∧∃t,I t∧σ''=S t:=by
 obtain⟨σ',hw,e⟩:=Fq hk
 exact⟨σ',hw,t',hI,e⟩
section
variable {M:BO}{P:Program}{I:Inv}
theorem DI.uG {ti:Types}(hti:BN P ti) (h1:Bu ti) (hm:P.follows .mixedOrders=true) {r:RF}{sl:List (Nat×AV)}{args:List V1}{pre:List AH}{Q:Jump→List AH→List AH→Prop}{nt:Nat}{ps:List Tmp}{ca cb:Code}
  (hnt:r.nt=nt) (hpl:r.params.toList=ps) (ha:r.assign=ca) (hb:r.body=cb) (hlen:args.length=ps.length) (hps:B4 (fun p=>Nat.blt p nt) ps=true)
  (hx:∀M:BO,M.P=P→M.I=I→exec M ti nt (Bh ti M nt) ca ⟨Oo ps args sl,B9 pre 0,0⟩ fun e σ=>match e with
   | .normal=>exec M ti nt (Bh ti M nt) cb σ fun e σ=>∃post new,Q (Dt e) post new∧ZA σ post new
   | _=>False):DI P I r sl args pre Q:=by
 subst hnt
 subst hpl
 subst ha
 subst hb
 exact DI.intro (fun M nt=>Bh ti M nt) hti h1 (US hti h1 hm) (by simpa using hlen) hps hx
theorem Ct {Q:AV→List AH→List AH→Prop}{ti:Types}{rs:List ResultVar}{σ:St}{res:AV}{post new:List AH}(hQ:Q res post new)
  (h:EU ti σ rs fun xs=>∃nm:List Id,nodupB nm=true∧SG xs=res.BL (Ca nm σ.next)∧EH (AX σ.heap) (Ca nm σ.next) post 0∧JA (AX σ.heap) (Ca nm σ.next) new nm∧Ef post nm):
  ∃r p n,Q r p n∧La ti rs σ r p n:=⟨_,_,_,hQ,[],h⟩
theorem Lr {A:Prop}{ti:Types}{o:Oper}{c:Call}{f:Operand}{fresh:Nat}{σ:St}{K:St→Prop}{i:Id}{r:Unit→RF}{sl sl0:List (Nat×AV)}{xs targs:List V1}{pre post new:List AH}{j:Jump}
  (hP:M.P=P) (hI:M.I=I) (m:List Id) (ho:o.op= .call c) (hc:c.callee= .value f) (hf:Aw ti (Ab σ.slots) 0 f= .v (.c (.yl i))) (hr:AX σ.heap i=some (.rnd r sl))
  (hR:DI P I (r ()) sl0 targs pre fun j' p n=>j'=j∧p=post∧n=new) (hxs:Ix (Cq ti (Ab σ.slots) c.args.toList c.argTypes.toList)=some xs)
  (he:xs=targs.map (V1.BL (Ba (m++[i]) fresh))) (hsl:sl=aE (Ba (m++[i]) fresh) sl0) (hm:(m++[i]).Nodup) (hpre:SJ (AX σ.heap) (Ba (m++[i]) fresh) m pre) (hkd:CC pre post) (hn:new.length≤31)
  (hk:K ⟨D9 σ.slots o.dst (.v (.d (.bool j.isNone))),Ez σ.heap (OE (m++[i]) (Ba (m++[i]) fresh) (post++[Dp j r sl0])++DJ fresh (Ba (m++[i]) fresh) 0 new),fresh⟩):
  M.lock fun _=>A∨U9 M ti o fresh σ K:=by
 refine ZB ?_
 unfold U9
 rw[ho]
 simp only[]
 rw[hc]
 simp only[]
 refine⟨⟨σ.slots,σ.heap,fresh⟩,CH.refl _,rfl,?_⟩
 simp only[hf]
 unfold withArgs
 rw[hxs]
 simp only[hr]
 refine⟨m,targs,pre,sl0,_,hP▸hI▸hR,he,hsl,(Du hpre).1,hm,(Du hpre).2,?_⟩
 rintro j' post' new' ⟨rfl,rfl,rfl⟩
 exact⟨⟨hkd,hn⟩,hk⟩
theorem Mt {ti:Types}{nt:Nat}{g:Operand}{ps:Array Tmp}{assign body:Code}{σ:St}{K:CD→St→Prop}{n:FuncId}{cap:List Id}{targs:List V1}{pre post new:List AH}{res:AV}
  (hP:M.P=P) (hI:M.I=I) (m:List Id) (sl:List (Nat×AV)) (hg:Aw ti (Ab σ.slots) 0 g= .v (.c (.fn n cap))) (hsl:cM (Ab σ.slots) sl)
  (ht:BB P I n targs pre res post new) (he:(V1.c (.yl (.loc σ.next))::cap.map fun i=>V1.c (.ptr i 0))=targs.map (V1.BL (Ba m (σ.next+32)))) (hm:m.Nodup)
  (hpre:SJ (AX (Dr σ.heap (.loc σ.next) (.rnd (fun _=>⟨ps,assign,body,nt⟩) sl))) (Ba m (σ.next+32)) m pre) (hkd:CC pre post) (hn:new.length≤31)
  (hk:match AX (Ez (Dr σ.heap (.loc σ.next) (.rnd (fun _=>⟨ps,assign,body,nt⟩) sl)) (OE m (Ba m (σ.next+32)) post++DJ (σ.next+32) (Ba m (σ.next+32)) 0 new)) (.loc σ.next)with
   | some (.rnd _ _)=>K .normal ⟨σ.slots,Dr (Ez (Dr σ.heap (.loc σ.next) (.rnd (fun _=>⟨ps,assign,body,nt⟩) sl)) (OE m (Ba m (σ.next+32)) post++DJ (σ.next+32) (Ba m (σ.next+32)) 0 new)) (.loc σ.next) .gone,σ.next+64⟩
   | some (.rndX j)=>(match j with
    | none=>K .ret ⟨σ.slots,Dr (Ez (Dr σ.heap (.loc σ.next) (.rnd (fun _=>⟨ps,assign,body,nt⟩) sl)) (OE m (Ba m (σ.next+32)) post++DJ (σ.next+32) (Ba m (σ.next+32)) 0 new)) (.loc σ.next) .gone,σ.next+64⟩
    | some id=>K (.exit id) ⟨σ.slots,Dr (Ez (Dr σ.heap (.loc σ.next) (.rnd (fun _=>⟨ps,assign,body,nt⟩) sl)) (OE m (Ba m (σ.next+32)) post++DJ (σ.next+32) (Ba m (σ.next+32)) 0 new)) (.loc σ.next) .gone,σ.next+64⟩)
   | _=>False):
  M.lock fun _=>UK M ti nt g ps assign body σ K:=by
 refine (M.lock_iff _).2 ⟨σ,CH.refl _,?_⟩
 rw[hg]
 refine⟨sl,SR hsl,m,targs,pre,_,hP▸hI▸ht,he,(Du hpre).1,hm,(Du hpre).2,?_⟩
 rintro res' post' new' ⟨rfl,rfl,rfl⟩
 exact⟨⟨hkd,hn⟩,hk⟩
end
end Go.AM
namespace Go.AM
open Go
def rK (d:Nat) (b:Bool) (l:List (Nat×AV)):List Nat→List (Nat×AV)
 | []=>[]
 | k::r=>(match Nat.beq k d with
  | true=>(k,.v (.d (.bool b)))
  | false=>(k,Ab l k))::rK d b l r
def nK (h:List (Id×AH)):List Id→List (Id×AH)
 | []=>[]
 | i::r=>(match AX h i with
  | some o=>(i,o)::nK h r
  | none=>nK h r)
def UY (d:Nat) (ks:List Nat) (is:List Id) (nx:Nat) (σ:St) (b:Bool):St:=⟨rK d b σ.slots ks,nK σ.heap is,nx⟩
theorem AJ {M:BO}{ea eb:St→(CD→St→Prop)→Prop}{σ:St}{K:CD→St→Prop}(d:Nat) (ks:List Nat) (is:List Id) (nx:Nat) (I:Nat→Bool→Prop)
  (ha:ea σ fun e σ'=>match e with
   | .normal=>∃σ'',CH σ' σ''∧∃t:Nat×Bool,I t.1 t.2∧σ''=UY d ks is nx σ t.2
   | .exit id=>K (.exit id) σ'
   | .ret=>K .ret σ') (hb:∀t:Nat×Bool,I t.1 t.2→eb (UY d ks is nx σ t.2) K):M.lock fun _=>Y3 ea eb σ K:=
 CJ (fun t:Nat×Bool=>UY d ks is nx σ t.2) (fun t=>I t.1 t.2) ha hb
end Go.AM
namespace Go.Proofs.YtjmofeakajdbiaaGreatDoor
open Go Go.AM
theorem Ht:Tryz.prog.follows .mixedOrders=true:=by kernel_rfl
theorem Xb {P:Program}{name:String}{g:Nat}(hg:P.globalNamed name=some g) {w w':World}(h:w'.heap[g]?=w.heap[g]?):w'.var? P name=w.var? P name:=by
 unfold World.var?
 rw[hg]
 simp only[Option.bind_some,h]
theorem Xd:∃g,Tryz.prog.globalNamed "strings.asciiSpace" =some g:=⟨0,by kernel_rfl⟩
def inv:Inv:=⟨fun b=>Tryz.prog.globalNamed "strings.asciiSpace" =some b,fun w=>Lib.TabIs Tryz.prog w "strings.asciiSpace" .u8 Lib.asciiSpaceTab,fun h hr=>by
 obtain⟨g,hg⟩:=Xd
 unfold Lib.TabIs at hr ⊢
 rw[Xb hg (h g hg)]
 exact hr⟩
end Go.Proofs.YtjmofeakajdbiaaGreatDoor
namespace Go.Proofs
open Go.Shelf
def Tryz.Ts:Go.Shelf.Ren:=⟨fun | 157=>152 | 229=>153 | 199=>154 | 261=>155 | 311=>156 | 312=>157 | n=>n,fun | 9=>9 | 31=>34 | 3=>3 | 5=>5 | 4=>4 | 119=>155 | 0=>0 | 40=>157 | 152=>158 | 21=>21 | 154=>160 | 51=>161 | 141=>163 | 196=>167 | 193=>164 | 198=>170 | 49=>168 | 194=>165 | 201=>173 | 226=>175 | 46=>176 | 227=>177 | n=>n,fun | 0=>0 | 6=>1 | n=>n⟩
theorem Tryz.aC:Go.Proofs.Lays.n157 Tryz.prog Tryz.Ts:={
 mixed:=by kernel_rfl
 f157:=Tryz.func152.trans (congrArg some (by kernel_rfl))
 f199:=Tryz.func154.trans (congrArg some (by kernel_rfl))
 f229:=Tryz.func153.trans (congrArg some (by kernel_rfl))
 f261:=Tryz.func155.trans (congrArg some (by kernel_rfl))
 f311:=Tryz.func156.trans (congrArg some (by kernel_rfl))
 f312:=Tryz.func157.trans (congrArg some (by kernel_rfl))
 t0:=Tryz.underlying0
 a0:=Tryz.isAgg0
 z0:=Tryz.sizeOf0
 v0:=Tryz.zeroValue0
 t3:=Tryz.underlying3
 a3:=Tryz.isAgg3
 z3:=Tryz.sizeOf3
 v3:=Tryz.zeroValue3
 t4:=Tryz.underlying4
 a4:=Tryz.isAgg4
 z4:=Tryz.sizeOf4
 v4:=Tryz.zeroValue4
 t5:=Tryz.underlying5
 a5:=Tryz.isAgg5
 z5:=Tryz.sizeOf5
 v5:=Tryz.zeroValue5
 t9:=Tryz.underlying9
 a9:=Tryz.isAgg9
 z9:=Tryz.sizeOf9
 v9:=Tryz.zeroValue9
 t21:=Tryz.underlying21
 a21:=Tryz.isAgg21
 z21:=Tryz.sizeOf21
 v21:=Tryz.zeroValue21
 t31:=Tryz.underlying34
 a31:=Tryz.isAgg34
 z31:=Tryz.sizeOf34
 v31:=Tryz.zeroValue34
 t40:=Tryz.underlying157
 a40:=Tryz.isAgg157
 z40:=Tryz.sizeOf157
 v40:=Tryz.zeroValue157
 t46:=Tryz.underlying176
 a46:=Tryz.isAgg176
 z46:=Tryz.sizeOf176
 v46:=Tryz.zeroValue176
 t49:=Tryz.underlying168
 a49:=Tryz.isAgg168
 z49:=Tryz.sizeOf168
 v49:=Tryz.zeroValue168
 t51:=Tryz.underlying161
 a51:=Tryz.isAgg161
 z51:=Tryz.sizeOf161
 v51:=Tryz.zeroValue161
 t119:=Tryz.underlying155
 a119:=Tryz.isAgg155
 z119:=Tryz.sizeOf155
 t141:=Tryz.underlying163
 a141:=Tryz.isAgg163
 z141:=Tryz.sizeOf163
 v141:=Tryz.zeroValue163
 t152:=Tryz.underlying158
 a152:=Tryz.isAgg158
 z152:=Tryz.sizeOf158
 v152:=Tryz.zeroValue158
 t154:=Tryz.underlying160
 a154:=Tryz.isAgg160
 z154:=Tryz.sizeOf160
 v154:=Tryz.zeroValue160
 t193:=Tryz.underlying164
 a193:=Tryz.isAgg164
 z193:=Tryz.sizeOf164
 v193:=Tryz.zeroValue164
 t194:=Tryz.underlying165
 a194:=Tryz.isAgg165
 z194:=Tryz.sizeOf165
 v194:=Tryz.zeroValue165
 t196:=Tryz.underlying167
 a196:=Tryz.isAgg167
 z196:=Tryz.sizeOf167
 v196:=Tryz.zeroValue167
 t198:=Tryz.underlying170
 a198:=Tryz.isAgg170
 z198:=Tryz.sizeOf170
 v198:=Tryz.zeroValue170
 t201:=Tryz.underlying173
 a201:=Tryz.isAgg173
 z201:=Tryz.sizeOf173
 v201:=Tryz.zeroValue173
 t226:=Tryz.underlying175
 a226:=Tryz.isAgg175
 z226:=Tryz.sizeOf175
 v226:=Tryz.zeroValue175
 t227:=Tryz.underlying177
 a227:=Tryz.isAgg177
 z227:=Tryz.sizeOf177
 v227:=Tryz.zeroValue177
 g0:=by kernel_rfl
 g6:=by kernel_rfl}
open Go.RowKit Go.Lib in
theorem Tryz.strings_Fields (s:ByteArray) (w:World) (hs:s.size<4294967281) (hascii:∀(j:Nat) b,s.data.toList[j]?=some b→b.toNat<128) (htab:Lib.TabIs Tryz.prog w "strings.asciiSpace" .u8 Lib.asciiSpaceTab):
  Calls Tryz.prog 152 #[.string s] w fun e w'=>
   e= .returned (.slice (some ⟨w.heap.size,0,none⟩) (Lib.fields s.data.toList).length (Lib.fields s.data.toList).length)∧w'=w.alloc (.cells ((Lib.fields s.data.toList).map fun l=>Value.string ⟨l.toArray⟩).toArray 9):=Any.strings_Fields Tryz.aC (by kernel_rfl) (by kernel_rfl) s w hs hascii htab
end Go.Proofs
set_option linter.unusedVariables false
namespace Go.Proofs.YtjmofeakajdbiaaGreatDoor
open Go Go.AM
theorem two {vals:Array Value}(h:vals.size=2):∃v u,vals=#[v,u]:=
 ⟨vals[0],vals[1],by
  apply Array.ext
  ·simpa using h
  ·intro i h1 h2
   match i,h2 with
   | 0,_=>rfl
   | 1,_=>rfl⟩
def fieldsD (s:ByteArray):List D:=(Lib.fields s.data.toList).map fun l=>D.str ⟨l.toArray⟩
def Xe (n:Nat) (s:ByteArray):Option (List D):=if s.size<4294967281∧(s.data.toList.all fun b=>b.toNat<128)=true∧(Lib.fields s.data.toList).length≤maxLen then some (fieldsD s)else none
theorem nL (n:Nat):∀⦃s:ByteArray⦄ ⦃r1:List D⦄,Xe n s=some r1→BB Tryz.prog inv 152 [.d (.str s)] [] (.v (.d (.list false 1 r1))) [] []:=by
 intro s r1 h
 unfold Xe at h
 split at h
 ·rename_i hb
  cases h
  obtain⟨h1,h2,h3⟩:=hb
  refine BB.Ym (xs:=[.str s]) ⟨_,_,Tryz.func152,rfl,by kernel_rfl⟩ fun w Z vals hr hsz hv=>?_
  obtain⟨v,rfl⟩:∃v,vals=#[v]:=Array.size_eq_one_iff.1 hsz
  cases hv 0 _ _ rfl rfl
  refine (Tryz.strings_Fields s w h1 (fun j b hj=>by
   have:=List.all_eq_true.1 h2 b (List.mem_of_getElem? hj)
   simpa using this) hr).mono ?_
  rintro e w' ⟨rfl,rfl⟩
  refine⟨_,rfl,UX rfl rfl rfl (by simp) (fun b hb=>Go.RowKit.Below.heap_alloc w _ b hb),fun Z' _ _ hZ=>?_⟩
  have hl:(fieldsD s).length=(Lib.fields s.data.toList).length:=by simp[fieldsD]
  show Ad _ Z' (.list false 1 (fieldsD s)) _
  rw[←hl]
  refine .list false 1 (fieldsD s) _ _ w.heap.size 0 (fun i _=>.string ⟨((Lib.fields s.data.toList).getD i []).toArray⟩) (Nat.le_refl _) (by rw[hl];exact h3) ?_ (fun _=>rfl) ?_ ?_
  ·intro r hr
   obtain⟨l,_,rfl⟩:=List.mem_map.1 hr
   exact⟨rfl,rfl,fun c hc=>by simp[D.cells]at hc;subst hc;rfl⟩
  ·intro i r j c hi hj
   have hi':((Lib.fields s.data.toList).map fun l=>D.str ⟨l.toArray⟩)[i]?=some r:=hi
   rw[List.getElem?_map,Option.map_eq_some_iff]at hi'
   obtain⟨l,hl',rfl⟩:=hi'
   match j with
   | 0=>
    refine⟨?_,fun hz=>absurd (hZ _ _ hz) (Nat.lt_irrefl _)⟩
    have:=heap_alloc_new w (.cells ((Lib.fields s.data.toList).map fun l=>Value.string ⟨l.toArray⟩).toArray 9)
    unfold World.cell?
    simp only[Nat.zero_add,Nat.mul_one,Nat.add_zero]
    rw[this]
    simp[hl']
   | j+1=>simp[D.cells]at hj
  ·intro i r j c hi hj
   have hi':((Lib.fields s.data.toList).map fun l=>D.str ⟨l.toArray⟩)[i]?=some r:=hi
   rw[List.getElem?_map,Option.map_eq_some_iff]at hi'
   obtain⟨l,hl',rfl⟩:=hi'
   match j with
   | 0=>
    simp[D.cells]at hj
    subst hj
    simp only[List.getD_eq_getElem?_getD,hl',Option.getD_some]
    exact .str _
   | j+1=>simp[D.cells]at hj
 ·cases h
end Go.Proofs.YtjmofeakajdbiaaGreatDoor
set_option maxRecDepth 100000
set_option maxHeartbeats 40000000
set_option linter.unusedVariables false
noncomputable section
namespace Go.Proofs.YtjmofeakajdbiaaGreatDoor
open Go Go.AM
def Bd {γ:Type}(x:D) (k:Int->BA->LD->Int->BA->LD->LD->Int->Int->BA->BA->BA->LD->LD->Int->Int->Option γ):Option γ:=match x with | .agg [.int .u8 a0,.str a1,.list true 4 a2,.int .u8 a3,.str a4,.list true 3 a5,.list true 15 a6,.int .u8 a7,.int .i64 a8,.str a9,.str a10,.str a11,.list false 1 a12,.list true 8 a13,.int .i64 a14,.int .i64 a15]=>k a0 a1 a2 a3 a4 a5 a6 a7 a8 a9 a10 a11 a12 a13 a14 a15 | _=>none
theorem Mu {γ:Type}{x:D}{k:Int->BA->LD->Int->BA->LD->LD->Int->Int->BA->BA->BA->LD->LD->Int->Int->Option γ}{r:γ}(h:Bd x k=some r):∃a0 a1 a2 a3 a4 a5 a6 a7 a8 a9 a10 a11 a12 a13 a14 a15,x= .agg [.int .u8 a0,.str a1,.list true 4 a2,.int .u8 a3,.str a4,.list true 3 a5,.list true 15 a6,.int .u8 a7,.int .i64 a8,.str a9,.str a10,.str a11,.list false 1 a12,.list true 8 a13,.int .i64 a14,.int .i64 a15]/\k a0 a1 a2 a3 a4 a5 a6 a7 a8 a9 a10 a11 a12 a13 a14 a15=some r:=by
 unfold Bd at h
 split at h
 ·exact⟨_,_,_,_,_,_,_,_,_,_,_,_,_,_,_,_,rfl,h⟩
 ·cases h
def Bl {γ:Type}(x:D) (k:BA->Int->BA->LD->Option γ):Option γ:=match x with | .agg [.str a0,.int .u8 a1,.str a2,.list true 3 a3]=>k a0 a1 a2 a3 | _=>none
theorem IY {γ:Type}{x:D}{k:BA->Int->BA->LD->Option γ}{r:γ}(h:Bl x k=some r):∃a0 a1 a2 a3,x= .agg [.str a0,.int .u8 a1,.str a2,.list true 3 a3]/\k a0 a1 a2 a3=some r:=by
 unfold Bl at h
 split at h
 ·exact⟨_,_,_,_,rfl,h⟩
 ·cases h
def CM {γ:Type}(x:D) (k:Int->BA->LD->Option γ):Option γ:=match x with | .agg [.int .u8 a0,.str a1,.list true 3 a2]=>k a0 a1 a2 | _=>none
theorem IZ {γ:Type}{x:D}{k:Int->BA->LD->Option γ}{r:γ}(h:CM x k=some r):∃a0 a1 a2,x= .agg [.int .u8 a0,.str a1,.list true 3 a2]/\k a0 a1 a2=some r:=by
 unfold CM at h
 split at h
 ·exact⟨_,_,_,rfl,h⟩
 ·cases h
def Af {γ:Type}(x:D) (k:Int->BA->BA->LD->Int->BA->LD->Int->BA->LD->LD->LD->LD->LD->Int->Option γ):Option γ:=match x with | .agg [.int .u8 a0,.str a1,.str a2,.list false 1 a3,.int .u8 a4,.str a5,.list true 3 a6,.int .i64 a7,.str a8,.list false 1 a9,.list true 8 a10,.list true 15 a11,.list true 15 a12,.list true 3 a13,.int .i64 a14]=>k a0 a1 a2 a3 a4 a5 a6 a7 a8 a9 a10 a11 a12 a13 a14 | _=>none
theorem Bb {γ:Type}{x:D}{k:Int->BA->BA->LD->Int->BA->LD->Int->BA->LD->LD->LD->LD->LD->Int->Option γ}{r:γ}(h:Af x k=some r):∃a0 a1 a2 a3 a4 a5 a6 a7 a8 a9 a10 a11 a12 a13 a14,x= .agg [.int .u8 a0,.str a1,.str a2,.list false 1 a3,.int .u8 a4,.str a5,.list true 3 a6,.int .i64 a7,.str a8,.list false 1 a9,.list true 8 a10,.list true 15 a11,.list true 15 a12,.list true 3 a13,.int .i64 a14]/\k a0 a1 a2 a3 a4 a5 a6 a7 a8 a9 a10 a11 a12 a13 a14=some r:=by
 unfold Af at h
 split at h
 ·exact⟨_,_,_,_,_,_,_,_,_,_,_,_,_,_,_,rfl,h⟩
 ·cases h
def Bc {γ:Type}(x:D) (k:BA->Option γ):Option γ:=match x with | .str a0=>k a0 | _=>none
theorem Eh {γ:Type}{x:D}{k:BA->Option γ}{r:γ}(h:Bc x k=some r):∃a0,x= .str a0/\k a0=some r:=by
 unfold Bc at h
 split at h
 ·exact⟨_,rfl,h⟩
 ·cases h
def Ao {γ:Type}(x:D) (k:Int->Int->BA->BA->BA->LD->LD->Int->Option γ):Option γ:=match x with | .agg [.int .u8 a0,.int .i64 a1,.str a2,.str a3,.str a4,.list false 1 a5,.list true 8 a6,.int .i64 a7]=>k a0 a1 a2 a3 a4 a5 a6 a7 | _=>none
theorem Ei {γ:Type}{x:D}{k:Int->Int->BA->BA->BA->LD->LD->Int->Option γ}{r:γ}(h:Ao x k=some r):∃a0 a1 a2 a3 a4 a5 a6 a7,x= .agg [.int .u8 a0,.int .i64 a1,.str a2,.str a3,.str a4,.list false 1 a5,.list true 8 a6,.int .i64 a7]/\k a0 a1 a2 a3 a4 a5 a6 a7=some r:=by
 unfold Ao at h
 split at h
 ·exact⟨_,_,_,_,_,_,_,_,rfl,h⟩
 ·cases h
def Be {γ:Type}(x:D) (k:BA->BA->LD->Option γ):Option γ:=match x with | .agg [.str a0,.str a1,.list true 15 a2]=>k a0 a1 a2 | _=>none
theorem GD {γ:Type}{x:D}{k:BA->BA->LD->Option γ}{r:γ}(h:Be x k=some r):∃a0 a1 a2,x= .agg [.str a0,.str a1,.list true 15 a2]/\k a0 a1 a2=some r:=by
 unfold Be at h
 split at h
 ·exact⟨_,_,_,rfl,h⟩
 ·cases h
def BR:BA:=⟨#[108,101,116,32,105,102,32,101,108,115,101,32,119,104,105,108,101,32,109,97,116,99,104,32,115,99,111,112,101,32,115,112,97,119,110,32,108,111,99,107,32,97,115,32,99,104,97,110,32,100,114,111,112,32,102,110,32,115,116,114,117,99,116,32,101,110,117,109,32,116,114,117,101,32,102,97,108,115,101,32,97,110,100,32,111,114,32,110,111,116,32,105,110,116,32,98,111,111,108,32,117,110,105,116,32,109,117,116,32,98,111,120,32,117,110,98,111,120,32,99,101,108,108,32,103,101,116,32,115,101,116,32,114,99,32,97,114,99,32,99,108,111,110,101,32,109,117,116,101,120,32,111,112,101,110,32,97,116,111,109,105,99,32,108,111,97,100,32,115,116,111,114,101,32,102,101,116,99,104,32,115,101,110,100,32,114,101,99,118,32,66,111,120,32,67,101,108,108,32,82,99,32,65,114,99,32,77,117,116,101,120,32,65,116,111,109,105,99,32,83,101,110,100,101,114,32,82,101,99,101,105,118,101,114]⟩
def Mv {γ:Type}(x:D) (k:Int->Option γ):Option γ:=match x with | .int .i64 a0=>k a0 | _=>none
theorem Mw {γ:Type}{x:D}{k:Int->Option γ}{r:γ}(h:Mv x k=some r):∃a0,x= .int .i64 a0/\k a0=some r:=by
 unfold Mv at h
 split at h
 ·exact⟨_,rfl,h⟩
 ·cases h
def iK:BA:=⟨#[42]⟩
def VI:BA:=⟨#[108,101,116]⟩
def ZI:BA:=⟨#[105,102]⟩
def QU:BA:=⟨#[101,108,115,101]⟩
def Ls:BA:=⟨#[119,104,105,108,101]⟩
def Lu:BA:=⟨#[109,97,116,99,104]⟩
def Lv:BA:=⟨#[115,99,111,112,101]⟩
def Lw:BA:=⟨#[115,112,97,119,110]⟩
def QV:BA:=⟨#[108,111,99,107]⟩
def ZJ:BA:=⟨#[97,115]⟩
def QW:BA:=⟨#[99,104,97,110]⟩
def QX:BA:=⟨#[100,114,111,112]⟩
def ZK:BA:=⟨#[102,110]⟩
def JD:BA:=⟨#[115,116,114,117,99,116]⟩
def QY:BA:=⟨#[101,110,117,109]⟩
def QZ:BA:=⟨#[116,114,117,101]⟩
def Lx:BA:=⟨#[102,97,108,115,101]⟩
def VJ:BA:=⟨#[97,110,100]⟩
def ZL:BA:=⟨#[111,114]⟩
def VK:BA:=⟨#[110,111,116]⟩
def VL:BA:=⟨#[105,110,116]⟩
def Qa:BA:=⟨#[98,111,111,108]⟩
def Qb:BA:=⟨#[117,110,105,116]⟩
def VM:BA:=⟨#[109,117,116]⟩
def VN:BA:=⟨#[98,111,120]⟩
def Ly:BA:=⟨#[117,110,98,111,120]⟩
def Qc:BA:=⟨#[99,101,108,108]⟩
def VO:BA:=⟨#[103,101,116]⟩
def VP:BA:=⟨#[115,101,116]⟩
def ZM:BA:=⟨#[114,99]⟩
def VQ:BA:=⟨#[97,114,99]⟩
def Lz:BA:=⟨#[99,108,111,110,101]⟩
def L1:BA:=⟨#[109,117,116,101,120]⟩
def Qd:BA:=⟨#[111,112,101,110]⟩
def JE:BA:=⟨#[97,116,111,109,105,99]⟩
def Qe:BA:=⟨#[108,111,97,100]⟩
def L2:BA:=⟨#[115,116,111,114,101]⟩
def L3:BA:=⟨#[102,101,116,99,104]⟩
def Qf:BA:=⟨#[115,101,110,100]⟩
def Qg:BA:=⟨#[114,101,99,118]⟩
def VR:BA:=⟨#[66,111,120]⟩
def Qh:BA:=⟨#[67,101,108,108]⟩
def ZN:BA:=⟨#[82,99]⟩
def VS:BA:=⟨#[65,114,99]⟩
def L4:BA:=⟨#[77,117,116,101,120]⟩
def JF:BA:=⟨#[65,116,111,109,105,99]⟩
def JG:BA:=⟨#[83,101,110,100,101,114]⟩
def GF:BA:=⟨#[82,101,99,101,105,118,101,114]⟩
def cN:BA:=⟨#[105,48]⟩
def cO:BA:=⟨#[98,48]⟩
def nM:BA:=⟨#[48]⟩
def Ia:BA:=⟨#[112,48]⟩
def N2:BA:=⟨#[49]⟩
def Qi:BA:=⟨#[50]⟩
def cQ:BA:=⟨#[110,54]⟩
def Xf:BA:=⟨#[116,102,54]⟩
def Xg:BA:=⟨#[116,118,57]⟩
def Qj:BA:=⟨#[112,49]⟩
def iL:BA:=⟨#[110,108]⟩
def bC:BA:=⟨#[116,78,101]⟩
def iM:BA:=⟨#[112,101]⟩
def rL:BA:=⟨#[101]⟩
def rM:BA:=⟨#[110]⟩
def bD:BA:=⟨#[101,66,69]⟩
def iP:BA:=⟨#[101,66]⟩
def bF:BA:=⟨#[110,121,65]⟩
def mP:BA:=⟨#[66]⟩
def bG:BA:=⟨#[78,120,66]⟩
def bH:BA:=⟨#[112,110,66]⟩
def bI:BA:=⟨#[84,110,115]⟩
def Ib:Unit->RF:=fun _=>⟨cP (cL (cR (cL (cR (cR (cR (cR (KI Tryz.f88)))))))),cL (cL (cR (cL (cR (cR (cR (cR (KI Tryz.f88)))))))),cR (cL (cR (cL (cR (cR (cR (cR (KI Tryz.f88)))))))),34⟩
def Bo {γ:Type}(x:D) (k:LD->Option γ):Option γ:=match x with | .list true 15 a0=>k a0 | _=>none
theorem DY {γ:Type}{x:D}{k:LD->Option γ}{r:γ}(h:Bo x k=some r):∃a0,x= .list true 15 a0/\k a0=some r:=by
 unfold Bo at h
 split at h
 ·exact⟨_,rfl,h⟩
 ·cases h
def Ic:Unit->RF:=fun _=>⟨cP (cL (cR (cL (cR (cR (cR (KI Tryz.f45))))))),cL (cL (cR (cL (cR (cR (cR (KI Tryz.f45))))))),cR (cL (cR (cL (cR (cR (cR (KI Tryz.f45))))))),27⟩
end Go.Proofs.YtjmofeakajdbiaaGreatDoor
end
namespace Go.AM
open Go Go.RowKit
structure bJ where
 res:AV
 post:List AH
 new:List AH
section
variable {γ:Type}{r:γ}
def Xh (op:BinOp) (q:IntKind) (a b:Int) (k:D→Option γ):Option γ:=
 match op with
 | .add=>AE (q.wrap (a+b)) fun z=>k (.int q z)
 | .sub=>AE (q.wrap (a - b)) fun z=>k (.int q z)
 | .mul=>AE (q.wrap (a*b)) fun z=>k (.int q z)
 | .eql=>if a=b then k (.bool true)else k (.bool false)
 | .neq=>if a=b then k (.bool false)else k (.bool true)
 | .lss=>if a<b then k (.bool true)else k (.bool false)
 | .leq=>if a≤b then k (.bool true)else k (.bool false)
 | .gtr=>if b<a then k (.bool true)else k (.bool false)
 | .geq=>if b≤a then k (.bool true)else k (.bool false)
 | _=>none
theorem Xi {M:BO}{op:BinOp}{q:IntKind}{a b:Int}{k:D→Option γ}{P:D→Prop}(hk:∀d,k d=some r→P d) (h:Xh op q a b k=some r):Iw M op q a b P:=by
 cases op<;>simp only[Xh]at h<;>try contradiction
 ·exact⟨_,rfl,hk _ h⟩
 ·exact⟨_,rfl,hk _ h⟩
 ·exact⟨_,rfl,hk _ h⟩
 ·simp only[Iw,M.split_iff,M.eqI_eq]
  by_cases c:a=b
  ·rw[if_pos c]at h;rw[beq_iff_eq.2 c];exact hk _ h
  ·rw[if_neg c]at h;rw[beq_eq_false_iff_ne.2 c];exact hk _ h
 ·simp only[Iw,M.split_iff,M.eqI_eq]
  by_cases c:a=b
  ·rw[if_pos c]at h;rw[beq_iff_eq.2 c];exact hk _ h
  ·rw[if_neg c]at h;rw[beq_eq_false_iff_ne.2 c];exact hk _ h
 ·simp only[Iw,M.split_iff,M.ltI_eq]
  by_cases c:a<b
  ·rw[if_pos c]at h;rw[decide_eq_true c];exact hk _ h
  ·rw[if_neg c]at h;rw[decide_eq_false c];exact hk _ h
 ·simp only[Iw,M.split_iff,M.leI_eq]
  by_cases c:a≤b
  ·rw[if_pos c]at h;rw[decide_eq_true c];exact hk _ h
  ·rw[if_neg c]at h;rw[decide_eq_false c];exact hk _ h
 ·simp only[Iw,M.split_iff,M.ltI_eq]
  by_cases c:b<a
  ·rw[if_pos c]at h;rw[decide_eq_true c];exact hk _ h
  ·rw[if_neg c]at h;rw[decide_eq_false c];exact hk _ h
 ·simp only[Iw,M.split_iff,M.leI_eq]
  by_cases c:b≤a
  ·rw[if_pos c]at h;rw[decide_eq_true c];exact hk _ h
  ·rw[if_neg c]at h;rw[decide_eq_false c];exact hk _ h
def Xj (op:BinOp) (a b:ByteArray) (k:D→Option γ):Option γ:=
 match op with
 | .add=>cK a b fun c=>k (.str c)
 | .eql=>if a=b then k (.bool true)else k (.bool false)
 | .neq=>if a=b then k (.bool false)else k (.bool true)
 | _=>none
theorem Xk {M:BO}{op:BinOp}{a b:ByteArray}{k:D→Option γ}{P:D→Prop}(hk:∀d,k d=some r→P d) (h:Xj op a b k=some r):RT M op a b P:=by
 cases op<;>simp only[Xj]at h<;>try contradiction
 ·obtain⟨c,h1,h2,h3⟩:=XY h
  exact⟨c,h1,h2,hk _ h3⟩
 ·simp only[RT,M.split_iff,M.eqS_eq]
  by_cases c:a=b
  ·rw[if_pos c]at h;rw[EA.2 c];exact hk _ h
  ·rw[if_neg c]at h;rw[Bool.eq_false_iff.2 fun e=>c (EA.1 e)];exact hk _ h
 ·simp only[RT,M.split_iff,M.eqS_eq]
  by_cases c:a=b
  ·rw[if_pos c]at h;rw[EA.2 c];exact hk _ h
  ·rw[if_neg c]at h;rw[Bool.eq_false_iff.2 fun e=>c (EA.1 e)];exact hk _ h
def fT (x:AV) (k:Bool→Option γ):Option γ:=
 match x with
 | .v (.d (.bool b))=>k b
 | _=>none
def iQ (x:AV) (k:Int→Option γ):Option γ:=
 match x with
 | .v (.d (.int _ n))=>k n
 | _=>none
def Ot (ti:Types) (t:TypeId) (k:TI→Option γ):Option γ:=
 match ti t with
 | some x=>k x
 | none=>none
def mQ (x:AV) (k:Bool→Nat→List D→Option γ):Option γ:=
 match x with
 | .v (.d (.list ag sz rows))=>k ag sz rows
 | .v (.c (.lst _ ag sz rows))=>k ag sz rows
 | .v (.c (.nils ag sz))=>k ag sz []
 | .v (.c (.tl ag sz rows))=>k ag sz rows
 | _=>none
def D1 (c:Bool) (x:Option γ):Option γ:=
 match c with
 | true=>x
 | false=>none
theorem Cb {ti:Types}{t:TypeId}{k:TI→Option γ}{P:TI→Prop}(hk:∀i,k i=some r→P i) (h:Ot ti t k=some r):BC ti t P:=by
 unfold Ot at h
 unfold BC
 split at h
 ·rename_i x hx;rw[hx];exact hk _ h
 ·cases h
theorem CB {c:Bool}{x:Option γ}{P:Prop}(hk:x=some r→P) (h:D1 c x=some r):B5 c P:=by
 cases c
 ·cases h
 ·exact hk h
theorem UZ {x:AV}{k:Int→Option γ}{P:IntKind→Int→Prop}(hk:∀q n,k n=some r→P q n) (h:iQ x k=some r):GV x P:=by
 unfold iQ at h
 split at h
 ·exact hk _ _ h
 ·cases h
theorem Xl {x:AV}{k:Bool→Nat→List D→Option γ}{P:Bool→Nat→List D→Prop}(hk:∀a s l,k a s l=some r→P a s l) (h:mQ x k=some r):Iv x P:=by
 unfold mQ at h
 split at h
 ·exact hk _ _ _ h
 ·exact hk _ _ _ h
 ·exact hk _ _ _ h
 ·exact hk _ _ _ h
 ·cases h
theorem cS {x:AV}{k:Bool→Option γ}{P:Bool→Prop}(hk:∀b,k b=some r→P b) (h:fT x k=some r):OD x P:=by
 unfold fT at h
 split at h
 ·exact hk _ h
 ·cases h
def Qk (ti:Types) (t:TypeId) (x:AV) (h:Heap) (k:Out→Option γ):Option γ:=
 Ot ti t fun i=>match x with
 | .v (.c (.ptr id o))=>(match h id with
  | some (.cells cs)=>D1 (Nat.ble (o+i.size) cs.length) (k ⟨.v (V1.Ax (Aj i.desc) ((cs.drop o).take i.size)),[id],[]⟩)
  | _=>none)
 | .v (.c (.row ag sz d))=>D1 (Aj i.desc==ag) (D1 (Nat.beq sz i.size) (k ⟨.v (.d d),[],[]⟩))
 | .v (.c (.rp cs))=>D1 (Nat.ble i.size cs.length) (k ⟨.v (V1.Ax (Aj i.desc) ((cs.take i.size).map CV.d)),[],[]⟩)
 | _=>none
theorem Ou {ti:Types}{t:TypeId}{x:AV}{h:Heap}{k:Out→Option γ}{P:Out→Prop}(hk:∀o,k o=some r→P o) (e:Qk ti t x h k=some r):E1 ti t x h P:=by
 unfold Qk at e
 unfold E1
 refine Cb (fun i e=>?_) e
 split at e
 ·split at e
  ·rename_i hc
   simp only[hc]
   exact CB (hk _) e
  ·cases e
 ·exact CB (CB (hk _)) e
 ·exact CB (hk _) e
 ·cases e
def Ql (ti:Types) (t:TypeId) (x y:AV) (h:Heap) (k:Out→Option γ):Option γ:=
 Ot ti t fun i=>match y with
 | .v y=>(match x with
  | .v (.c (.ptr id o))=>(match h id with
   | some (.cells cs)=>D1 (Nat.ble (o+i.size) cs.length) (D1 (Nat.beq y.cells.length i.size) (k ⟨.u,[id],[(id,.cells (cs.take o++y.cells++cs.drop (o+i.size)))]⟩))
   | _=>none)
  | _=>none)
 | _=>none
theorem Ua {ti:Types}{t:TypeId}{x y:AV}{h:Heap}{k:Out→Option γ}{P:Out→Prop}(hk:∀o,k o=some r→P o) (e:Ql ti t x y h k=some r):Gl ti t x y h P:=by
 unfold Ql at e
 unfold Gl
 refine Cb (fun i e=>?_) e
 split at e
 ·split at e
  ·split at e
   ·rename_i hc
    simp only[EM,hc]
    exact CB (CB (hk _)) e
   ·cases e
  ·cases e
 ·cases e
def Qm (ti:Types) (t:TypeId) (x:AV) (f:Nat) (k:Out→Option γ):Option γ:=
 Ot ti t fun i=>match i.desc with
 | .struct fs=>(match fs[f]? with
  | some fd=>Ot ti fd.type fun j=>D1 (Nat.blt 0 j.size) (match x with
   | .v (.c (.ptr id o))=>k ⟨.v (.c (.ptr id (o+fd.offset))),[],[]⟩
   | .v (.c (.row _ _ d))=>k ⟨.v (.c (.rp (d.cells.drop fd.offset))),[],[]⟩
   | .v (.c (.rp cs))=>k ⟨.v (.c (.rp (cs.drop fd.offset))),[],[]⟩
   | _=>none)
  | none=>none)
 | _=>none
theorem Ub {ti:Types}{t:TypeId}{x:AV}{f:Nat}{k:Out→Option γ}{P:Out→Prop}(hk:∀o,k o=some r→P o) (e:Qm ti t x f k=some r):Gm ti t x f P:=by
 unfold Qm at e
 unfold Gm
 refine Cb (fun i e=>?_) e
 split at e
 ·rename_i fs hf
  split at e
  ·rename_i fd hfd
   simp only[hf,hfd]
   refine Cb (fun j e=>CB (fun e=>?_) e) e
   split at e
   ·exact hk _ e
   ·exact hk _ e
   ·exact hk _ e
   ·cases e
  ·cases e
 ·cases e
abbrev Ds (γ:Type):=TypeId→D→(D→Option γ)→Option γ
def Ds.ok (ds:Ds γ):Prop:=∀t x k r,ds t x k=some r→k x=some r
def Qn (ds:Ds γ) (ti:Types) (t:TypeId) (x i:AV) (k:Out→Option γ):Option γ:=
 iQ i fun n=>Ot ti t fun q=>match q.desc with
 | .slice e=>Ot ti e fun j=>mQ x fun ag sz rows=>D1 (Aj j.desc==ag)<| D1 (Nat.beq sz j.size)<| Ae rows n fun d=>ds e d fun d=>k ⟨.v (.c (.row ag sz d)),[],[]⟩
 | _=>none
theorem Uc {ds:Ds γ}(hd:ds.ok) {ti:Types}{t:TypeId}{x i:AV}{k:Out→Option γ}{P:Out→Prop}(hk:∀o,k o=some r→P o) (e:Qn ds ti t x i k=some r):Gn ti t x i P:=by
 unfold Qn at e
 unfold Gn
 refine UZ (fun _ n e=>Cb (fun q e=>?_) e) e
 split at e
 ·rename_i el hq
  simp only[hq]
  refine Cb (fun j e=>?_) e
  have main:Iv x fun ag sz rows=>B5 (Aj j.desc==ag)<| B5 (Nat.beq sz j.size)<| ∃r_1,0≤n∧rows[n.toNat]?=some r_1∧P ⟨.v (.c (.row ag sz r_1)),[],[]⟩:=by
   refine Xl (fun ag sz rows e=>CB (CB fun e=>?_) e) e
   obtain⟨d,⟨h1,h2⟩,h3⟩:=Az e
   exact⟨d,h1,h2,hk _ (hd _ _ _ _ h3)⟩
  split
  ·exact main.elim
  ·exact main
 ·cases e
def Xm (ti:Types) (op:BinOp) (t:TypeId) (x y:AV) (k:Out→Option γ):Option γ:=
 match x,y with
 | .v (.d (.int q a)),.v (.d (.int q' b))=>D1 (decide (q=q')) (Xh op q a b fun d=>k ⟨.v (.d d),[],[]⟩)
 | .v (.d (.str a)),.v (.d (.str b))=>Xj op a b fun d=>k ⟨.v (.d d),[],[]⟩
 | .v (.d (.bool a)),.v (.d (.bool b))=>Ot ti t fun i=>(match i.desc with
  | .bool=>(match op with
   | .eql=>AI (a==b) fun q=>k ⟨.v (.d (.bool q)),[],[]⟩
   | .neq=>AI (!(a==b)) fun q=>k ⟨.v (.d (.bool q)),[],[]⟩
   | _=>none)
  | _=>none)
 | _,_=>none
theorem Xn {M:BO}{ti:Types}{op:BinOp}{t:TypeId}{x y:AV}{k:Out→Option γ}{P:Out→Prop}(hk:∀o,k o=some r→P o) (e:Xm ti op t x y k=some r):Pt M ti op t x y P:=by
 unfold Xm at e
 split at e
 ·exact CB (fun e=>Xi (fun d h=>hk _ h) e) e
 ·exact Xk (fun d h=>hk _ h) e
 ·refine Cb (fun i e=>?_) e
  split at e
  ·rename_i hi
   simp only[hi]
   split at e
   ·exact⟨_,Ll _ _,hk _ e⟩
   ·exact⟨_,by rw[DS,Ll],hk _ e⟩
   ·cases e
  ·cases e
 ·cases e
def cT (op:UnOp) (x:AV) (k:Out→Option γ):Option γ:=
 match op,x with
 | .not,.v (.d (.bool b))=>AI (!b) fun q=>k ⟨.v (.d (.bool q)),[],[]⟩
 | _,_=>none
theorem ZO {op:UnOp}{x:AV}{k:Out→Option γ}{P:Out→Prop}(hk:∀o,k o=some r→P o) (e:cT op x k=some r):Uw op x P:=by
 unfold cT at e
 split at e
 ·exact⟨_,DS _,hk _ e⟩
 ·cases e
def Xo (ti:Types) (t:TypeId) (x:AV) (k:Out→Option γ):Option γ:=
 Ot ti t fun q=>match q.desc with
 | .slice _=>mQ x fun _ _ rows=>AB rows fun z=>k ⟨.v (.d (.int .i64 z)),[],[]⟩
 | .string=>(match x with
  | .v (.d (.str s))=>Ns s fun z=>k ⟨.v (.d (.int .i64 z)),[],[]⟩
  | _=>none)
 | .array n _=>k ⟨.v (.d (.int .i64 n)),[],[]⟩
 | _=>none
theorem Xp {M:BO}{ti:Types}{t:TypeId}{x:AV}{k:Out→Option γ}{P:Out→Prop}(hk:∀o,k o=some r→P o) (e:Xo ti t x k=some r):MD M ti t x P:=by
 unfold Xo at e
 unfold MD
 refine Cb (fun q e=>?_) e
 split at e
 ·rename_i hq
  simp only[hq]
  have main:Iv x fun _ _ rows=>∃z:Int,M.lenI rows=z∧P ⟨.v (.d (.int .i64 z)),[],[]⟩:=Xl (fun _ _ rows e=>(BQ M e).imp fun z h=>⟨h.1,hk _ h.2⟩) e
  split
  ·exact main.elim
  ·exact main
 ·rename_i hq
  simp only[hq]
  split at e
  ·exact (ZF M e).imp fun z h=>⟨h.1,hk _ h.2⟩
  ·cases e
 ·rename_i hq
  simp only[hq]
  exact hk _ e
 ·cases e
def Qo (ti:Types) (s:AR) (fs:List Field) (cs:List CV):List (Nat×Operand)→(List CV→Option γ)→Option γ
 | [],k=>k cs
 | (i,x)::r,k=>match fs[i]? with
  | some fd=>Ot ti fd.type fun j=>(match Aw ti s fd.type x with
   | .v y=>D1 (Nat.beq y.cells.length j.size)<| D1 (Nat.ble (fd.offset+j.size) cs.length)<| Qo ti s fs (cs.take fd.offset++y.cells++cs.drop (fd.offset+j.size)) r k
   | _=>none)
  | none=>none
theorem Ov {ti:Types}{s:AR}{fs:List Field}:∀{l:List (Nat×Operand)}{cs:List CV}{k:List CV→Option γ}{P:List CV→Prop},(∀cs,k cs=some r→P cs)→Qo ti s fs cs l k=some r→OG ti s fs cs l P
 | [],_,_,_,hk,e=>hk _ e
 | (i,x)::l,cs,k,P,hk,e=>by
  unfold Qo at e
  unfold OG
  split at e
  ·rename_i fd hfd
   simp only[hfd]
   refine Cb (fun j e=>?_) e
   split at e
   ·rename_i y hy
    simp only[hy,EM]
    exact CB (CB fun e=>Ov hk e) e
   ·cases e
  ·cases e
def Qq (ti:Types) (s:AR) (t:TypeId) (parts:List (Nat×Operand)) (k:Out→Option γ):Option γ:=
 Ot ti t fun q=>match q.desc with
 | .struct fs=>D1 (RU ti fs.toList)<| Qo ti s fs.toList q.zc parts fun cs=>k ⟨.v (V1.Ax true cs),[],[]⟩
 | _=>none
theorem Ud {ti:Types}{s:AR}{t:TypeId}{parts:List (Nat×Operand)}{k:Out→Option γ}{P:Out→Prop}(hk:∀o,k o=some r→P o) (e:Qq ti s t parts k=some r):Gp ti s t parts P:=by
 unfold Qq at e
 unfold Gp
 refine Cb (fun q e=>?_) e
 split at e
 ·rename_i hq
  simp only[hq]
  exact CB (fun e=>Ov (fun cs h=>hk _ h) e) e
 ·cases e
def Mx (ti:Types) (t:TypeId) (x:AV) (f:Nat) (k:Out→Option γ):Option γ:=
 Ot ti t fun i=>match i.desc with
 | .struct fs=>(match fs[f]? with
  | some fd=>Ot ti fd.type fun j=>(match x with
   | .v y=>D1 (MG y)<| D1 (Nat.ble (fd.offset+j.size) y.cells.length)<| k ⟨.v (V1.Ax (Aj j.desc) ((y.cells.drop fd.offset).take j.size)),[],[]⟩
   | _=>none)
  | none=>none)
 | _=>none
theorem SS {ti:Types}{t:TypeId}{x:AV}{f:Nat}{k:Out→Option γ}{P:Out→Prop}(hk:∀o,k o=some r→P o) (e:Mx ti t x f k=some r):Fi ti t x f P:=by
 unfold Mx at e
 unfold Fi
 refine Cb (fun i e=>?_) e
 split at e
 ·rename_i fs hf
  split at e
  ·rename_i fd hfd
   simp only[hf,hfd]
   refine Cb (fun j e=>?_) e
   split at e
   ·simp only[EM];exact CB (CB (hk _)) e
   ·cases e
  ·cases e
 ·cases e
def KJ (x:AV) (i:Nat) (k:Out→Option γ):Option γ:=
 match x with
 | .t xs=>(match V7 xs i with
  | some y=>k ⟨.v y,[],[]⟩
  | none=>none)
 | _=>none
theorem Qr {x:AV}{i:Nat}{k:Out→Option γ}{P:Out→Prop}(hk:∀o,k o=some r→P o) (e:KJ x i k=some r):EZ x i P:=by
 unfold KJ at e
 split at e
 ·split at e
  ·rename_i hy
   simp only[EZ,hy];exact hk _ e
  ·cases e
 ·cases e
def Xq (ti:Types) (t:TypeId) (x i:AV) (k:Out→Option γ):Option γ:=
 iQ i fun n=>Ot ti t fun q=>match q.desc with
 | .string=>(match x with
  | .v (.d (.str b))=>Tu b n fun z=>k ⟨.v (.d (.int .u8 z)),[],[]⟩
  | _=>none)
 | _=>none
theorem Xr {ti:Types}{t:TypeId}{x i:AV}{k:Out→Option γ}{P:Out→Prop}(hk:∀o,k o=some r→P o) (e:Xq ti t x i k=some r):Fh ti t x i P:=by
 unfold Xq at e
 unfold Fh
 refine UZ (fun _ n e=>Cb (fun q e=>?_) e) e
 split at e
 ·rename_i hq
  simp only[hq]
  split at e
  ·obtain⟨z,h1,h2⟩:=ZG e
   exact⟨z,h1,hk _ h2⟩
  ·cases e
 ·cases e
def KK (ti:Types) (src dst:TypeId) (x:AV) (k:Out→Option γ):Option γ:=
 Ot ti src fun a=>Ot ti dst fun b=>match a.desc,b.desc with
 | .int _,.int q=>iQ x fun n=>AE (q.wrap n) fun z=>k ⟨.v (.d (.int q z)),[],[]⟩
 | _,_=>none
theorem Qs {ti:Types}{src dst:TypeId}{x:AV}{k:Out→Option γ}{P:Out→Prop}(hk:∀o,k o=some r→P o) (e:KK ti src dst x k=some r):Ea ti src dst x P:=by
 unfold KK at e
 unfold Ea
 refine Cb (fun a e=>Cb (fun b e=>?_) e) e
 split at e
 ·rename_i h1 h2
  simp only[h1,h2]
  exact UZ (fun _ n e=>(Aa e).imp fun z h=>⟨h.1,hk _ h.2⟩) e
 ·cases e
def DN (ds:Ds γ) (ti:Types) (o:Oper) (fresh:Nat) (s:AR) (h:Heap) (k:Out→Option γ):Option γ:=
 match o.op with
 | .move x=>k ⟨Aw ti s o.type x,[],[]⟩
 | .assign x=>k ⟨Aw ti s o.type x,[],[]⟩
 | .alloc t=>Ot ti t fun i=>k ⟨ptrTo fresh,[],[(.loc fresh,.cells i.zc)]⟩
 | .box t x=>(match Aw ti s t x with
  | .v y=>k ⟨ptrTo fresh,[],[(.loc fresh,.cells y.cells)]⟩
  | _=>none)
 | .load t x=>Qk ti t (Aw ti s 0 x) h k
 | .store t x y=>Ql ti t (Aw ti s 0 x) (Aw ti s t y) h k
 | .fieldAddr t x f=>Qm ti t (Aw ti s 0 x) f k
 | .indexAddr t x i=>Qn ds ti t (Aw ti s t x) (Aw ti s 3 i) k
 | .nilCheck x=>(match Aw ti s 0 x with
  | .v (.c (.ptr i q))=>k ⟨.v (.c (.ptr i q)),[],[]⟩
  | _=>none)
 | .binOp op t x y _=>Xm ti op t (Aw ti s t x) (Aw ti s t y) k
 | .unOp op _ x=>cT op (Aw ti s o.type x) k
 | .makeFunc fn first captured=>(match fn,first.toList with
  | .func f,[]=>(match ME (captured.toList.map (Aw ti s 0))with
   | some l=>k ⟨.v (.c (.fn f l)),[],[]⟩
   | none=>none)
  | _,_=>none)
 | .build t parts=>Qq ti s t parts.toList k
 | .index t x i=>Xq ti t (Aw ti s t x) (Aw ti s 3 i) k
 | .field t x f=>Mx ti t (Aw ti s t x) f k
 | .extract x i=>KJ (Aw ti s 0 x) i k
 | .convert a b x=>KK ti a b (Aw ti s a x) k
 | .call c=>(match c.callee with
  | .builtin .len=>(match c.args.toList,c.argTypes.toList with
   | [x],[t]=>Xo ti t (Aw ti s t x) k
   | _,_=>none)
  | _=>none)
 | _=>none
theorem DZ {ds:Ds γ}(hd:ds.ok) {M:BO}{ti:Types}{o:Oper}{fresh:Nat}{s:AR}{h:Heap}{k:Out→Option γ}{P:Out→Prop}(hk:∀o,k o=some r→P o) (e:DN ds ti o fresh s h k=some r):Br M ti o fresh s h P:=by
 unfold DN at e
 unfold Br
 split at e<;>rename_i ho<;>first | (cases e;done) | simp only[ho]
 ·exact hk _ e
 ·exact hk _ e
 ·exact Cb (fun _ e=>hk _ e) e
 ·split at e
  ·rename_i hy;simp only[hy,EM];exact hk _ e
  ·cases e
 ·exact Ou hk e
 ·exact Ua hk e
 ·exact Ub hk e
 ·exact Uc hd hk e
 ·split at e
  ·rename_i hy;simp only[hy];exact hk _ e
  ·cases e
 ·exact Xn hk e
 ·exact ZO hk e
 ·split at e
  ·rename_i hf
   simp only[hf]
   split at e
   ·rename_i h3;simp only[h3];exact hk _ e
   ·cases e
  ·cases e
 ·exact Ud hk e
 ·exact Xr hk e
 ·exact SS hk e
 ·exact Qr hk e
 ·exact Qs hk e
 ·split at e
  ·rename_i hc
   simp only[hc]
   split at e
   ·rename_i h1 h2
    simp only[h1,h2]
    exact Xp hk e
   ·cases e
  ·cases e
end
end Go.AM
namespace Go.AM
open Go Go.RowKit
def iR:CV→List Id
 | .ptr i _=>[i]
 | .fn _ cap=>cap
 | .lst i _ _ _=>[i]
 | .sl i _=>[i]
 | .map i=>[i]
 | .ap i _ _ _ _=>[i]
 | .ow i=>[i]
 | .op i _ _ _=>[i]
 | .yl i=>[i]
 | _=>[]
def Xs:List CV→List Id
 | []=>[]
 | c::cs=>iR c++Xs cs
def nN:V1→List Id
 | .d _=>[]
 | .c x=>iR x
 | .agg cs=>Xs cs
def CR:List V1→List Id
 | []=>[]
 | x::xs=>nN x++CR xs
def nP:Option AH→List Id
 | some (.cells cs)=>Xs cs
 | _=>[]
def Bs (h:Heap):Nat→List Id→List Id→List Id
 | 0,_,acc=>acc
 | _+1,[],acc=>acc
 | n+1,i::t,acc=>match J2 i acc with
  | true=>Bs h n t acc
  | false=>Bs h n (nP (h i)++t) (acc++[i])
def cU:List Id→Nat→Id→Option Nat
 | [],_,_=>none
 | j::l,n,i=>match Id.beq j i with
  | true=>some n
  | false=>cU l (n+1) i
def Xt (m:List Id) (i:Id):Id:=match cU m 0 i with
 | some j=>.ext j
 | none=>i
def Dw (h:Heap):List Id→Option (List AH)
 | []=>some []
 | i::l=>match h i with
  | some o=>(match Dw h l with
   | some r=>some (o::r)
   | none=>none)
  | none=>none
theorem My {h:Heap}:∀{l:List Id}{r:List AH},Dw h l=some r→l.length=r.length∧∀(j:Nat) i o,l[j]?=some i→r[j]?=some o→h i=some o
 | [],r,e=>by cases e;exact⟨rfl,by simp⟩
 | i::l,r,e=>by
  unfold Dw at e
  split at e
  ·rename_i o ho
   split at e
   ·rename_i r' hr
    cases e
    obtain⟨h1,h2⟩:=My hr
    refine⟨by simp[h1],fun j x y hx hy=>?_⟩
    cases j with
    | zero=>simp at hx hy;subst hx;subst hy;exact ho
    | succ j=>simp at hx hy;exact h2 j x y hx hy
   ·cases e
  ·cases e
def Xu:AH→AH→Bool
 | .cells _,.cells _=>true
 | _,.gone=>true
 | _,_=>false
def Qt:List AH→List AH→Bool
 | [],[]=>true
 | a::al,b::bs=>match Xu a b with
  | true=>Qt al bs
  | false=>false
 | _,_=>false
theorem Xv {a b:AH}(h:Xu a b=true):sameKind a b:=by
 unfold Xu at h
 split at h
 ·trivial
 ·cases a<;>trivial
 ·cases h
theorem Ow:∀{a b:List AH},Qt a b=true→CC a b
 | [],[],_=>trivial
 | a::al,b::bs,h=>by
  unfold Qt at h
  split at h
  ·rename_i hk;exact⟨Xv hk,Ow h⟩
  ·cases h
 | [],_::_,h=>by cases h
 | _::_,[],h=>by cases h
section
variable {γ:Type}{r:γ}
abbrev Cl (γ:Type):=FuncId→List V1→List AH→(bJ→Option γ)→Option γ
def Cl.ok (P:Program) (I:Inv) (call:Cl γ):Prop:=∀f args pre k r,call f args pre k=some r→∃res post new,BB P I f args pre res post new∧k ⟨res,post,new⟩=some r
def VT (m:List Id) (fresh:Nat) (i:Id):Bool:=Id.beq (Ba m fresh (Xt m i)) i
theorem SU {m:List Id}{fresh:Nat}{i:Id}(h:VT m fresh i=true):Ba m fresh (Xt m i)=i:=Id.beq_iff.1 h
def Ue (call:Cl γ) (f:FuncId) (xs:List V1) (fresh:Nat) (h:Heap) (k:Out→Option γ):Option γ:=
 match Dw h (Bs h 100 (CR xs) [])with
 | none=>none
 | some objs=>D1 (B4 (fR (VT (Bs h 100 (CR xs) []) fresh)) xs)<| D1 (B4 (N1 (VT (Bs h 100 (CR xs) []) fresh)) objs)<| D1 (nodupB (Bs h 100 (CR xs) []))<|
   call f (xs.map (V1.BL (Xt (Bs h 100 (CR xs) [])))) (objs.map (AH.BL (Xt (Bs h 100 (CR xs) [])))) fun ret=>
    D1 (Qt (objs.map (AH.BL (Xt (Bs h 100 (CR xs) [])))) ret.post)<| D1 (Nat.ble ret.new.length 31)<|
     k ⟨ret.res.BL (Ba (Bs h 100 (CR xs) []) fresh),Bs h 100 (CR xs) [],OE (Bs h 100 (CR xs) []) (Ba (Bs h 100 (CR xs) []) fresh) ret.post++DJ fresh (Ba (Bs h 100 (CR xs) []) fresh) 0 ret.new⟩
theorem BE {c:Bool}{x:Option γ}(h:D1 c x=some r):c=true∧x=some r:=by
 cases c
 ·cases h
 ·exact⟨rfl,h⟩
theorem Xw {l:List Id}(h:nodupB l=true):l.Nodup:=by
 induction l with
 | nil=>exact List.nodup_nil
 | cons i l ih=>
  unfold nodupB at h
  split at h
  ·cases h
  ·rename_i hi
   refine List.nodup_cons.2 ⟨fun hm=>?_,ih h⟩
   rw[Gr.2 hm]at hi
   cases hi
theorem Wd {P:Program}{I:Inv}{call:Cl γ}(hc:call.ok P I) {f:FuncId}{xs:List V1}{fresh:Nat}{h:Heap}{k:Out→Option γ}{A:Out→Prop}(hk:∀o,k o=some r→A o) (e:Ue call f xs fresh h k=some r):Lj P I f xs fresh h A:=by
 unfold Ue at e
 generalize Bs h 100 (CR xs) []=m at e
 split at e
 ·cases e
 ·rename_i objs ho
  obtain⟨h1,e⟩:=BE e
  obtain⟨h2,e⟩:=BE e
  obtain⟨h3,e⟩:=BE e
  obtain⟨res,post,new,ht,e⟩:=hc _ _ _ _ _ e
  obtain⟨h4,e⟩:=BE e
  obtain⟨h5,e⟩:=BE e
  obtain⟨g1,g2⟩:=My ho
  refine⟨m,_,_,res,post,new,ht,?_,by simpa using g1,Xw h3,fun j i o hm hp=>?_,Ow h4,Nat.le_of_ble_eq_true h5,hk _ e⟩
  ·rw[List.map_map]
   rw[BM]at h1
   exact (B8 fun x hx=>QQ (fun i hi=>SU hi) (h1 x hx)).symm
  ·rw[List.getElem?_map,Option.map_eq_some_iff]at hp
   obtain⟨o',ho',rfl⟩:=hp
   rw[BM]at h2
   rw[Lp (p:=VT m fresh) (fun i hi=>SU hi) (h2 o' (List.mem_of_getElem? ho'))]
   exact g2 j i o' hm ho'
def VU:List Id→List Id→Bool
 | [],[]=>true
 | i::a,j::b=>(match Id.beq i j with
  | true=>VU a b
  | false=>false)
 | _,_=>false
theorem SV:∀{a b:List Id},VU a b=true→a=b
 | [],[],_=>rfl
 | i::a,j::b,h=>by
  unfold VU at h
  split at h
  ·rename_i hb;rw[Id.beq_iff.1 hb,SV h]
  ·cases h
 | [],_::_,h=>by cases h
 | _::_,[],h=>by cases h
def cV:CV→CV→Bool
 | .ptr i o,.ptr j q=>(match Id.beq i j with
  | true=>Nat.beq o q
  | false=>false)
 | .fn f c,.fn g d=>(match Nat.beq f g with
  | true=>VU c d
  | false=>false)
 | .nilp,.nilp=>true
 | .nilf,.nilf=>true
 | _,_=>false
theorem ZP {a b:CV}(h:cV a b=true):a=b:=by
 unfold cV at h
 split at h
 ·split at h
  ·rename_i hb;rw[Id.beq_iff.1 hb,Nat.eq_of_beq_eq_true h]
  ·cases h
 ·split at h
  ·rename_i hb;rw[Nat.eq_of_beq_eq_true hb,SV h]
  ·cases h
 ·rfl
 ·rfl
 ·cases h
def SW:List CV→List CV→Bool
 | [],[]=>true
 | i::a,j::b=>(match cV i j with
  | true=>SW a b
  | false=>false)
 | _,_=>false
theorem SX:∀{a b:List CV},SW a b=true→a=b
 | [],[],_=>rfl
 | i::a,j::b,h=>by
  unfold SW at h
  split at h
  ·rename_i hb;rw[ZP hb,SX h]
  ·cases h
 | [],_::_,h=>by cases h
 | _::_,[],h=>by cases h
def G4 (h:Heap):List Id→List Id
 | []=>[]
 | i::l=>(match h i with
  | some (.cells cs)=>(match SW cs cs with
   | true=>i::G4 h l
   | false=>G4 h l)
  | _=>G4 h l)
def JH (h:Heap) (ids rd:List Id):List (Id×AH)→(List (Id×AH)→Option γ)→Option γ
 | [],K=>K []
 | x::l,K=>(match J2 x.1 ids with
  | true=>(match J2 x.1 rd with
   | true=>(match h x.1,x.2 with
    | some (.cells a),.cells b=>D1 (SW a b) (JH h ids rd l K)
    | _,_=>none)
   | false=>none)
  | false=>JH h ids rd l fun wr=>K (x::wr))
theorem Ie {h:Heap}{ids rd:List Id}:∀{wr:List (Id×AH)}{K:List (Id×AH)→Option γ}{A:List (Id×AH)→Prop},(∀w,K w=some r→A w)→JH h ids rd wr K=some r→MW h ids rd wr A
 | [],_,_,hk,e=>hk _ e
 | x::l,K,A,hk,e=>by
  obtain⟨i,o⟩:=x
  unfold JH at e
  unfold MW
  simp only[]at e ⊢
  split at e
  ·rename_i h1
   rw[h1]
   split at e
   ·rename_i h2
    rw[h2]
    split at e
    ·rename_i h3
     obtain⟨h4,e⟩:=BE e
     exact⟨by rw[h3,SX h4],Ie hk e⟩
    ·cases e
   ·cases e
  ·rename_i h1
   rw[h1]
   exact Ie (fun w hw=>hk _ hw) e
def Qu (ti:Types) (s:AR) (e:TypeId) (ag:Bool) (sz:Nat):Nat→List (Nat×Operand)→(List D→Option γ)→Option γ
 | _,[],k=>k []
 | n,(i,x)::l,k=>D1 (Nat.beq i n)<| (match Aw ti s e x with
  | .v y=>(match y.norm with
   | .d d=>D1 (d.isAgg==ag)<| D1 (Nat.beq d.cells.length sz)<| Qu ti s e ag sz (n+1) l fun ds=>k (d::ds)
   | _=>none)
  | _=>none)
theorem Ox {ti:Types}{s:AR}{e:TypeId}{ag:Bool}{sz:Nat}:∀{l:List (Nat×Operand)}{n:Nat}{k:List D→Option γ}{A:List D→Prop},(∀w,k w=some r→A w)→Qu ti s e ag sz n l k=some r→OH ti s e ag sz n l A
 | [],_,_,_,hk,h=>hk _ h
 | (i,x)::l,n,k,A,hk,h=>by
  unfold Qu at h
  unfold OH
  refine CB (fun h=>?_) h
  split at h
  ·rename_i hy
   simp only[hy]
   split at h
   ·rename_i hd
    simp only[hd]
    exact CB (CB fun h=>Ox (fun w hw=>hk _ hw) h) h
   ·cases h
  ·cases h
def GG (ti:Types) (s:AR) (t:TypeId) (len:Nat) (parts:List (Nat×Operand)) (k:Out→Option γ):Option γ:=
 Ot ti t fun q=>match q.desc with
 | .slice e=>Ot ti e fun j=>D1 (Nat.ble (len*j.size) 16777216)<| D1 (Nat.beq parts.length len)<| D1 (Nat.blt 0 j.size)<| Qu ti s e (Aj j.desc) j.size 0 parts fun ds=>
   k ⟨.v (.c (.tl (Aj j.desc) j.size ds)),[],[]⟩
 | _=>none
theorem Lb {ti:Types}{s:AR}{t:TypeId}{len:Nat}{parts:List (Nat×Operand)}{k:Out→Option γ}{A:Out→Prop}(hk:∀o,k o=some r→A o) (h:GG ti s t len parts k=some r):Cy ti s t len parts A:=by
 unfold GG at h
 unfold Cy
 refine Cb (fun q h=>?_) h
 split at h
 ·rename_i hq
  simp only[hq]
  exact Cb (fun j h=>CB (CB (CB fun h=>Ox (fun w hw=>hk _ hw) h)) h) h
 ·cases h
def ZQ (mn:Bool) (x y:AV) (k:Out→Option γ):Option γ:=
 match x,y with
 | .v (.d (.int q a)),.v (.d (.int q' b))=>D1 (decide (q=q'))<| (match mn with
  | true=>AE (if b<a then b else a) fun z=>k ⟨.v (.d (.int q z)),[],[]⟩
  | false=>AE (if b>a then b else a) fun z=>k ⟨.v (.d (.int q z)),[],[]⟩)
 | _,_=>none
theorem VV {mn:Bool}{x y:AV}{k:Out→Option γ}{A:Out→Prop}(hk:∀o,k o=some r→A o) (e:ZQ mn x y k=some r):Fo mn x y A:=by
 unfold ZQ at e
 split at e
 ·refine CB (fun e=>?_) e
  cases mn with
  | true=>obtain⟨z,h1,h2⟩:=Aa e;exact⟨z,h1,hk _ h2⟩
  | false=>obtain⟨z,h1,h2⟩:=Aa e;exact⟨z,h1,hk _ h2⟩
 ·cases e
def ZR (ds:Ds γ) (call:Cl γ) (ti:Types) (o:Oper) (fresh:Nat) (s:AR) (h:Heap) (k:Out→Option γ):Option γ:=
 match o.op with
 | .call c=>(match c.callee with
  | .value f=>(match Aw ti s 0 f with
   | .v (.c (.fn n cap))=>(match Ix (Cq ti s c.args.toList c.argTypes.toList)with
    | some xs=>Ue call n (xs++cap.map fun i=>V1.c (.ptr i 0)) fresh h fun out=>JH h (G4 h (Bs h 100 (CR (xs++cap.map fun i=>V1.c (.ptr i 0))) [])) out.rd out.wr fun wr=>k ⟨out.val,out.rd,wr⟩
    | none=>none)
   | _=>none)
  | .builtin .len=>(match c.args.toList,c.argTypes.toList with
   | [x],[t]=>D1 (EP (Tt (Aw ti s t x))) (DN ds ti o fresh s h k)
   | _,_=>none)
  | .builtin .max=>(match c.args.toList,c.argTypes.toList with
   | [x,y],[t,t']=>ZQ false (Aw ti s t x) (Aw ti s t' y) k
   | _,_=>none)
  | .builtin .min=>(match c.args.toList,c.argTypes.toList with
   | [x,y],[t,t']=>ZQ true (Aw ti s t x) (Aw ti s t' y) k
   | _,_=>none)
  | _=>none)
 | .load _ x=>D1 (EP (Tt (Aw ti s 0 x))) (DN ds ti o fresh s h k)
 | .store _ x _=>D1 (EP (Tt (Aw ti s 0 x))) (DN ds ti o fresh s h k)
 | .fieldAddr _ x _=>D1 (EP (Tt (Aw ti s 0 x))) (DN ds ti o fresh s h k)
 | .indexAddr t x _=>D1 (EP (Tt (Aw ti s t x))) (DN ds ti o fresh s h k)
 | .nilCheck x=>D1 (EP (Tt (Aw ti s 0 x))) (DN ds ti o fresh s h k)
 | .binOp _ t x _ _=>D1 (EP (XC (Aw ti s t x)))<| D1 (EP (Tt (Aw ti s t x))) (DN ds ti o fresh s h k)
 | .convert a _ x=>D1 (XD (Aw ti s a x)) (DN ds ti o fresh s h k)
 | .move _=>DN ds ti o fresh s h k
 | .assign _=>DN ds ti o fresh s h k
 | .alloc _=>DN ds ti o fresh s h k
 | .box _ _=>DN ds ti o fresh s h k
 | .unOp _ _ _=>DN ds ti o fresh s h k
 | .makeFunc _ _ _=>DN ds ti o fresh s h k
 | .build _ _=>DN ds ti o fresh s h k
 | .index _ _ _=>DN ds ti o fresh s h k
 | .field _ _ _=>DN ds ti o fresh s h k
 | .extract _ _=>DN ds ti o fresh s h k
 | .buildSlice t len parts=>GG ti s t len parts.toList k
 | .pick c a b=>fT (Aw ti s 0 c) fun q=>if q=true then k ⟨Aw ti s o.type a,[],[]⟩else k ⟨Aw ti s o.type b,[],[]⟩
 | _=>none
theorem G5 {b:Bool}(h:EP b=true):b=false:=by cases b;rfl;cases h
theorem VW {M:BO}{ds:Ds γ}(hd:ds.ok) {call:Cl γ}(hc:call.ok M.P M.I) {ti:Types}{o:Oper}{fresh:Nat}{s:AR}{h:Heap}{k:Out→Option γ}{A:Out→Prop}(hk:∀o,k o=some r→A o) (e:ZR ds call ti o fresh s h k=some r):EN M ti o fresh s h A:=by
 unfold ZR at e
 unfold EN
 split at e<;>rename_i ho<;>first | (cases e;done) | simp only[ho]
 ·split at e
  ·rename_i hcal
   simp only[hcal]
   split at e
   ·rename_i n cap hf
    split at e
    ·rename_i xs hxs
     refine .inr (.inr ⟨G4 h (Bs h 100 (CR (xs++cap.map fun i=>V1.c (.ptr i 0))) []),?_⟩)
     show Br M ti o fresh s h _
     unfold Br
     simp only[ho,hcal]
     unfold Iy
     simp only[hf]
     unfold withArgs
     simp only[hxs]
     exact (M.lock_iff _).2 (Wd hc (fun out e=>Ie (fun w hw=>hk _ hw) e) e)
    ·cases e
   ·cases e
  ·rename_i hcal
   simp only[hcal]
   split at e
   ·rename_i h1 h2
    simp only[h1,h2]
    obtain⟨h3,e⟩:=BE e
    simp only[G5 h3]
    exact DZ hd hk e
   ·cases e
  ·rename_i hcal
   simp only[hcal]
   split at e
   ·rename_i h1 h2
    simp only[h1,h2]
    exact VV hk e
   ·cases e
  ·rename_i hcal
   simp only[hcal]
   split at e
   ·rename_i h1 h2
    simp only[h1,h2]
    exact VV hk e
   ·cases e
  ·cases e
 all_goals first | exact DZ hd hk e | skip
 rotate_right 2
 ·refine⟨false,?_⟩
  show Br M ti o fresh s h _
  unfold Br
  simp only[ho]
  exact⟨true,Lb hk e⟩
 ·show Br M ti o fresh s h _
  unfold Br
  simp only[ho]
  refine cS (fun q e=>?_) e
  cases q with
  | true=>rw[if_pos rfl]at e;exact hk _ e
  | false=>rw[if_neg Bool.false_ne_true]at e;exact hk _ e
 ·obtain⟨h3,e⟩:=BE e;simp only[G5 h3];exact DZ hd hk e
 ·obtain⟨h3,e⟩:=BE e;simp only[G5 h3];exact DZ hd hk e
 ·obtain⟨h3,e⟩:=BE e;simp only[G5 h3];exact DZ hd hk e
 ·obtain⟨h3,e⟩:=BE e;simp only[G5 h3];exact DZ hd hk e
 ·obtain⟨h3,e⟩:=BE e;simp only[G5 h3];exact DZ hd hk e
 ·obtain⟨h3,e⟩:=BE e
  obtain⟨h4,e⟩:=BE e
  simp only[G5 h3,G5 h4];exact DZ hd hk e
 ·obtain⟨h3,e⟩:=BE e;simp only[h3];exact DZ hd hk e
def Qv (o:Oper):Bool:=
 match o.op with
 | .store ..=>o.dst.isNone
 | .mapUpdate ..=>o.dst.isNone
 | .defer _=>false
 | _=>true
theorem Oy {o:Oper}{K:Prop}(h:Qv o=true) (hk:K):E6 o K:=by
 unfold Qv at h
 unfold E6
 split at h<;>rename_i ho<;>simp only[ho]
 ·cases hd:o.dst with
  | none=>exact hk
  | some d=>rw[hd]at h;cases h
 ·cases hd:o.dst with
  | none=>exact hk
  | some d=>rw[hd]at h;cases h
 ·cases h
 ·exact hk
def Xx (nt:Nat) (d:Option Tmp):Bool:=
 match d with
 | none=>true
 | some d=>Nat.blt d nt
theorem L5 {nt:Nat}{d:Option Tmp}{K:Prop}(h:Xx nt d=true) (hk:K):GY nt d K:=by
 cases d with
 | none=>exact hk
 | some d=>exact AN.2 ⟨h,hk⟩
def isNone {α:Type}:Option α→Bool
 | none=>true
 | some _=>false
theorem Oz {α:Type}{x:Option α}(h:isNone x=true):x=none:=by cases x;rfl;cases h
def SY:List (Nat×AV)→Nat→AV→List (Nat×AV)
 | [],_,_=>[]
 | x::l,t,v=>(match Nat.beq x.1 t with
  | true=>(x.1,v)::l
  | false=>x::SY l t v)
theorem Qw:∀{l:List (Nat×AV)}{t:Nat}{v:AV},Ab l t=v→SY l t v=l
 | [],_,_,_=>rfl
 | (k,v0)::l,t,v,h=>by
  unfold Ab at h
  unfold SY
  split at h
  ·rename_i hb;simp only[hb,h]
  ·rename_i hb;simp only[hb,Qw h]
def L6 (ops:Array Oper) (o:Oper) (σ:St) (K1 K0:St→Option γ):Option γ:=
 match o.guard with
 | none=>K1 σ
 | some (j,want)=>(match (ops[j]?).bind (·.dst)with
  | none=>none
  | some d=>(match Ab σ.slots d with
   | .v (.d (.bool c))=>(match want with
    | true=>if c=true then K1 ⟨SY σ.slots d (.v (.d (.bool true))),σ.heap,σ.next⟩else K0 ⟨SY σ.slots d (.v (.d (.bool false))),σ.heap,σ.next⟩
    | false=>if c=true then K0 ⟨SY σ.slots d (.v (.d (.bool true))),σ.heap,σ.next⟩else K1 ⟨SY σ.slots d (.v (.d (.bool false))),σ.heap,σ.next⟩)
   | .t []=>K0 σ
   | _=>none))
theorem Mz {ops:Array Oper}{o:Oper}{σ:St}{K1 K0:St→Option γ}{P1 P0:St→Prop}(h1:K1 σ=some r→P1 σ) (h0:K0 σ=some r→P0 σ) (e:L6 ops o σ K1 K0=some r):guarded ops o σ P1 P0:=by
 unfold L6 at e
 unfold guarded
 split at e
 ·rename_i hg;simp only[hg];exact h1 e
 ·rename_i j want hg
  simp only[hg]
  split at e
  ·cases e
  ·rename_i d hd
   simp only[hd]
   split at e
   ·rename_i c hs
    simp only[hs]
    cases want<;>cases c<;>simp only[if_true,Bool.false_eq_true,if_false,Qw hs]at e ⊢
    ·exact h1 e
    ·exact h0 e
    ·exact h0 e
    ·exact h1 e
   ·rename_i hs;simp only[hs];exact h0 e
   ·cases e
def Uf (ds:Ds γ) (call:Cl γ) (ti:Types) (nt:Nat) (o:Oper) (fresh:Nat) (σ:St) (K:St→Option γ):Option γ:=
 D1 (Qv o)<| D1 (Xx nt o.dst)<| D1 (isNone (QC ti o (Ab σ.slots) (AX σ.heap)))<| D1 (KC o || isNone (gW ti o (Ab σ.slots) (AX σ.heap)))<|
  ZR ds call ti o fresh (Ab σ.slots) (AX σ.heap) fun out=>K ⟨D9 σ.slots o.dst out.val,Ez σ.heap out.wr,σ.next⟩
theorem We {M:BO}{ds:Ds γ}(hd:ds.ok) {call:Cl γ}(hc:call.ok M.P M.I) {ti:Types}{nt:Nat}{o:Oper}{fresh:Nat}{σ:St}{K:St→Option γ}{P:St→Prop}(hK:∀σ,K σ=some r→P σ) (e:Uf ds call ti nt o fresh σ K=some r):QE M ti nt o fresh σ P:=by
 unfold Uf at e
 obtain⟨h1,e⟩:=BE e
 obtain⟨h2,e⟩:=BE e
 obtain⟨h3,e⟩:=BE e
 obtain⟨h4,e⟩:=BE e
 unfold QE
 refine Oy h1 (L5 h2 ?_)
 simp only[Oz h3]
 have main:EN M ti o fresh (Ab σ.slots) (AX σ.heap) fun out=>P ⟨D9 σ.slots o.dst out.val,Ez σ.heap out.wr,σ.next⟩:=VW hd hc (fun out h=>hK _ h) e
 cases hv:KC o with
 | true=>exact (M.lock_iff _).2 (.inl main)
 | false=>
  rw[hv,Bool.false_or]at h4
  simp only[Oz h4]
  exact main
end
end Go.AM
namespace Go.AM
open Go Go.RowKit
section
variable {γ:Type}{r:γ}
def SZ (ds:Ds γ) (call:Cl γ) (ti:Types) (nt:Nat) (ops:Array Oper) (base:Nat):List Oper→Nat→St→(St→Option γ)→Option γ
 | [],i,σ,K=>K ⟨σ.slots,σ.heap,base+32*i⟩
 | o::l,i,σ,K=>L6 ops o σ (fun σ=>Uf ds call ti nt o (base+32*i) σ fun σ2=>SZ ds call ti nt ops base l (i+1) σ2 K)
   (fun σ=>D1 (Xx nt o.dst) (SZ ds call ti nt ops base l (i+1) ⟨D9 σ.slots o.dst (.t []),σ.heap,σ.next⟩ K))
theorem M0 {M:BO}{ds:Ds γ}(hd:ds.ok) {call:Cl γ}(hc:call.ok M.P M.I) {ti:Types}{nt:Nat}{ops:Array Oper}{base:Nat}{K:St→Option γ}{P:St→Prop}(hK:∀σ,K σ=some r→P σ):
  ∀(l:List Oper) (i:Nat) (σ:St),SZ ds call ti nt ops base l i σ K=some r→DC M ti nt ops base l i σ P
 | [],_,_,e=>hK _ e
 | o::l,i,σ,e=>by
  unfold SZ at e
  unfold DC
  exact Mz (P1:=fun σ1=>QE M ti nt o (base+32*i) σ1 fun σ2=>DC M ti nt ops base l (i+1) σ2 P) (P0:=fun σ1=>GY nt o.dst (DC M ti nt ops base l (i+1) ⟨D9 σ1.slots o.dst (.t []),σ1.heap,σ1.next⟩ P))
   (fun e=>We hd hc (fun σ2 e=>M0 hd hc hK l (i+1) σ2 e) e) (fun e=>by
    obtain⟨h1,e⟩:=BE e
    exact L5 h1 (M0 hd hc hK l (i+1) _ e)) e
def M1 (ds:Ds γ) (call:Cl γ) (ti:Types) (nt:Nat) (ops:Array Oper) (base:Nat):List Oper→Nat→St→List Fp→(St→List Fp→Option γ)→Option γ
 | [],i,σ,fps,K=>K ⟨σ.slots,σ.heap,base+32*i⟩ fps
 | o::l,i,σ,fps,K=>L6 ops o σ (fun σ=>D1 (Qv o)<| D1 (Xx nt o.dst)<| ZR ds call ti o (base+32*i) (Ab σ.slots) (AX σ.heap) fun out=>
    M1 ds call ti nt ops base l (i+1) ⟨D9 σ.slots o.dst out.val,Ez σ.heap out.wr,σ.next⟩ (fps++[(out.rd,out.wr.map (·.1))]) K)
   (fun σ=>D1 (Xx nt o.dst) (M1 ds call ti nt ops base l (i+1) ⟨D9 σ.slots o.dst (.t []),σ.heap,σ.next⟩ (fps++[([],[])]) K))
theorem KL {M:BO}{ds:Ds γ}(hd:ds.ok) {call:Cl γ}(hc:call.ok M.P M.I) {ti:Types}{nt:Nat}{ops:Array Oper}{base:Nat}{K:St→List Fp→Option γ}{P:St→List Fp→Prop}(hK:∀σ fps,K σ fps=some r→P σ fps):
  ∀(l:List Oper) (i:Nat) (σ:St) (fps:List Fp),M1 ds call ti nt ops base l i σ fps K=some r→Dz M ti nt ops base l i σ fps P
 | [],_,_,_,e=>hK _ _ e
 | o::l,i,σ,fps,e=>by
  unfold M1 at e
  unfold Dz
  refine Mz (P1:=fun σ1=>E6 o<| GY nt o.dst<| EN M ti o (base+32*i) (Ab σ1.slots) (AX σ1.heap) fun out=>Dz M ti nt ops base l (i+1) ⟨D9 σ1.slots o.dst out.val,Ez σ1.heap out.wr,σ1.next⟩ (fps++[(out.rd,out.wr.map (·.1))]) P)
   (P0:=fun σ1=>GY nt o.dst (Dz M ti nt ops base l (i+1) ⟨D9 σ1.slots o.dst (.t []),σ1.heap,σ1.next⟩ (fps++[([],[])]) P)) (fun e=>?_) (fun e=>?_) e
  ·obtain⟨h1,e⟩:=BE e
   obtain⟨h2,e⟩:=BE e
   exact Oy h1 (L5 h2 (VW hd hc (fun out e=>KL hd hc hK l (i+1) _ _ e) e))
  ·obtain⟨h1,e⟩:=BE e
   exact L5 h1 (KL hd hc hK l (i+1) _ _ e)
abbrev Kt (γ:Type):=CD→St→Option γ
abbrev Rs (γ:Type):=Nat→St→Option (Option γ)
def Qx (res:Rs γ) (q:Nat) (eb:St→Kt γ→Option γ) (K:Kt γ):Kt γ
 | .normal,σ=>(match res q σ with
  | some x=>x
  | none=>eb σ K)
 | .exit id,σ=>K (.exit id) σ
 | .ret,σ=>K .ret σ
def Qy (id:Nat) (K:Kt γ):Kt γ
 | .normal,σ=>K .normal σ
 | .exit id',σ=>(match Nat.beq id' id with
  | true=>K .normal σ
  | false=>K (.exit id') σ)
 | .ret,σ=>K .ret σ
def M3 (res:Rs γ) (p:Nat) (σ:St):Option γ:=
 match res p σ with
 | some x=>x
 | none=>none
def L7 (res:Rs γ) (p:Nat) (K:Kt γ):Kt γ
 | .normal,σ=>M3 res p σ
 | .exit id,σ=>K (.exit id) σ
 | .ret,σ=>K .ret σ
structure Env (γ:Type) where
 ds:Ds γ
 call:Cl γ
 res:Rs γ
def told (σ:St) (c:Operand) (q:Bool):St:=
 match c with
 | .tmp t=>⟨SY σ.slots t (.v (.d (.bool q))),σ.heap,σ.next⟩
 | _=>σ
theorem VX {σ:St}{ti:Types}{c:Operand}{q:Bool}(h:Aw ti (Ab σ.slots) 0 c= .v (.d (.bool q))):told σ c q=σ:=by
 unfold told
 split
 ·rw[Qw h]
 ·rfl
def CN (E:Env γ) (ti:Types) (nt:Nat):Code→Nat→St→Kt γ→Option γ
 | .skip,_,σ,K=>K .normal σ
 | .region _ ops draw,_,σ,K=>(match draw with
  | false=>SZ E.ds E.call ti nt ops σ.next ops.toList 0 σ fun σ'=>K .normal σ'
  | true=>M1 E.ds E.call ti nt ops σ.next ops.toList 0 σ [] fun σ' fps=>D1 (XN ops fps) (K .normal σ'))
 | .seq a b,p,σ,K=>CN E ti nt a (2*p) σ (Qx E.res (2*p+1) (fun σ K=>CN E ti nt b (2*p+1) σ K) K)
 | .cond c a b,p,σ,K=>fT (Aw ti (Ab σ.slots) 0 c) fun q=>if q=true then CN E ti nt a (2*p) (told σ c true) K else CN E ti nt b (2*p+1) (told σ c false) K
 | .block id c,p,σ,K=>CN E ti nt c (2*p) σ (Qy id K)
 | .loop _,p,σ,_=>M3 E.res p σ
 | .exit id,_,σ,K=>K (.exit id) σ
 | .ret,_,σ,K=>K .ret σ
 | _,_,_,_=>none
def AP (E:Env γ) (ti:Types) (nt:Nat) (c:Code) (p:Nat) (σ:St) (K:Kt γ):Option γ:=
 match c with
 | .loop b=>CN E ti nt b (2*p) σ (L7 E.res p K)
 | c=>CN E ti nt c p σ K
def cW (E:Env γ) (ti:Types) (nt:Nat):Code→Nat→Kt γ→Bool→Option (Code×Nat×Kt γ)
 | .seq a b,p,K,d=>(match d with
  | false=>some (a,2*p,Qx E.res (2*p+1) (fun σ K=>CN E ti nt b (2*p+1) σ K) K)
  | true=>some (b,2*p+1,K))
 | .cond _ a b,p,K,d=>(match d with
  | false=>some (a,2*p,K)
  | true=>some (b,2*p+1,K))
 | .block id c,p,K,d=>(match d with
  | false=>some (c,2*p,Qy id K)
  | true=>none)
 | .loop c,p,K,d=>(match d with
  | false=>some (c,2*p,L7 E.res p K)
  | true=>none)
 | _,_,_,_=>none
def D2 (E:Env γ) (ti:Types) (nt:Nat) (body:Code) (K:Kt γ):List Bool→Option (Code×Nat×Kt γ)
 | []=>some (body,1,K)
 | b::t=>(match D2 E ti nt body K t with
  | some x=>cW E ti nt x.1 x.2.1 x.2.2 b
  | none=>none)
def B0:List Bool→Nat
 | []=>1
 | b::t=>(match b with
  | true=>2*B0 t+1
  | false=>2*B0 t)
theorem KM:∀t:List Bool,1≤B0 t
 | []=>Nat.le_refl _
 | b::t=>by have:=KM t;cases b<;>simp only[B0]<;>omega
theorem Fw:∀{s t:List Bool},B0 s=B0 t→s=t
 | [],[],_=>rfl
 | [],b::t,h=>by have:=KM t;cases b<;>simp only[B0]at h<;>omega
 | b::s,[],h=>by have:=KM s;cases b<;>simp only[B0]at h<;>omega
 | a::s,b::t,h=>by
  cases a<;>cases b<;>simp only[B0]at h
  ·rw[Fw (s:=s) (t:=t) (by omega)]
  ·omega
  ·omega
  ·rw[Fw (s:=s) (t:=t) (by omega)]
def Ig (E:Env γ) (ti:Types) (nt:Nat) (body:Code) (K:Kt γ) (way:List Bool) (σ:St):Option γ:=
 match D2 E ti nt body K way with
 | some x=>AP E ti nt x.1 x.2.1 σ x.2.2
 | none=>none
def Sa:Nat→Nat→List Bool
 | 0,_=>[]
 | f+1,p=>match Nat.ble p 1 with
  | true=>[]
  | false=>Nat.beq (p % 2) 1::Sa f (p / 2)
variable {M:BO}{ti:Types}{nt:Nat}{E:Nat→Env γ}{body:Code}{Kf:Kt γ}
def iT (E:Nat→Env γ) (ti:Types) (nt:Nat) (body:Code) (Kf:Kt γ) (r:γ) (n:Nat):Prop:=
 ∀p σ,M3 (E n).res p σ=some r→∃m σ' way,m<n∧CH σ σ'∧B0 way=p∧Ig (E m) ti nt body Kf way σ'=some r
theorem E8 {N:Nat}(hd:∀m,m≤N→(E m).ds.ok) (hc:∀m,m≤N→(E m).call.ok M.P M.I) (hr:∀m,m≤N→iT E ti nt body Kf r m):
  ∀(c:Code) (way:List Bool) (n:Nat) (Ko:Nat→Kt γ) (KP:CD→St→Prop),n≤N→(∀m,m≤n→D2 (E m) ti nt body Kf way=some (c,B0 way,Ko m))→(∀m e σ,m≤n→Ko m e σ=some r→KP e σ)→
   (∀σ,CN (E n) ti nt c (B0 way) σ (Ko n)=some r→exec M ti nt (Bh ti M nt) c σ KP)∧(∀σ,AP (E n) ti nt c (B0 way) σ (Ko n)=some r→exec M ti nt (Bh ti M nt) c σ KP)
 | .skip,way,n,Ko,KP,hn,h1,h2=>⟨fun σ e=>h2 n _ _ (Nat.le_refl _) e,fun σ e=>h2 n _ _ (Nat.le_refl _) e⟩
 | .exit id,way,n,Ko,KP,hn,h1,h2=>⟨fun σ e=>h2 n _ _ (Nat.le_refl _) e,fun σ e=>h2 n _ _ (Nat.le_refl _) e⟩
 | .ret,way,n,Ko,KP,hn,h1,h2=>⟨fun σ e=>h2 n _ _ (Nat.le_refl _) e,fun σ e=>h2 n _ _ (Nat.le_refl _) e⟩
 | .region id ops draw,way,n,Ko,KP,hn,h1,h2=>by
  have main:∀σ,CN (E n) ti nt (.region id ops draw) (B0 way) σ (Ko n)=some r→exec M ti nt (Bh ti M nt) (.region id ops draw) σ KP:=by
   intro σ e
   cases draw with
   | false=>exact M0 (hd n hn) (hc n hn) (fun σ' e=>h2 n _ _ (Nat.le_refl _) e) _ _ _ e
   | true=>
    refine KL (hd n hn) (hc n hn) (fun σ' fps e=>?_) _ _ _ _ e
    obtain⟨g1,e⟩:=BE e
    exact⟨(M.lock_iff _).2 g1,h2 n _ _ (Nat.le_refl _) e⟩
  exact⟨main,main⟩
 | .cond c a b,way,n,Ko,KP,hn,h1,h2=>by
  have main:∀σ,CN (E n) ti nt (.cond c a b) (B0 way) σ (Ko n)=some r→exec M ti nt (Bh ti M nt) (.cond c a b) σ KP:=by
   intro σ e
   have e':fT (Aw ti (Ab σ.slots) 0 c) (fun q=>if q=true then CN (E n) ti nt a (2*B0 way) (told σ c true) (Ko n)else CN (E n) ti nt b (2*B0 way+1) (told σ c false) (Ko n))=some r:=e
   show OD (Aw ti (Ab σ.slots) 0 c) _
   generalize ho:Aw ti (Ab σ.slots) 0 c=x at e'
   unfold fT at e'
   split at e'
   rotate_left
   ·cases e'
   rename_i q
   have e:(if q=true then CN (E n) ti nt a (2*B0 way) (told σ c true) (Ko n)else CN (E n) ti nt b (2*B0 way+1) (told σ c false) (Ko n))=some r:=e'
   cases q with
   | true=>
    rw[if_pos rfl,VX ho]at e
    exact (E8 hd hc hr a (false::way) n Ko KP hn (fun m hm=>by show (match D2 (E m) ti nt body Kf way with | some x=>_ | none=>_)=_;rw[h1 m hm];rfl) h2).1 σ e
   | false=>
    rw[if_neg Bool.false_ne_true,VX ho]at e
    exact (E8 hd hc hr b (true::way) n Ko KP hn (fun m hm=>by show (match D2 (E m) ti nt body Kf way with | some x=>_ | none=>_)=_;rw[h1 m hm];rfl) h2).1 σ e
  exact⟨main,main⟩
 | .block id c,way,n,Ko,KP,hn,h1,h2=>by
  have main:∀σ,CN (E n) ti nt (.block id c) (B0 way) σ (Ko n)=some r→exec M ti nt (Bh ti M nt) (.block id c) σ KP:=by
   intro σ e
   refine (E8 hd hc hr c (false::way) n (fun m=>Qy id (Ko m)) _ hn (fun m hm=>by show (match D2 (E m) ti nt body Kf way with | some x=>_ | none=>_)=_;rw[h1 m hm];rfl) (fun m e σ hm he=>?_)).1 σ e
   cases e with
   | normal=>exact h2 m _ _ hm he
   | ret=>exact h2 m _ _ hm he
   | exit id'=>
    simp only[Qy]at he
    simp only[]
    split at he
    ·rename_i hb;simp only[hb];exact h2 m _ _ hm he
    ·rename_i hb;simp only[hb];exact h2 m _ _ hm he
  exact⟨main,main⟩
 | .loop c,way,n,Ko,KP,hn,h1,h2=>by
  have at':∀k,k≤n→∀σ σ1,CH σ σ1→AP (E k) ti nt (.loop c) (B0 way) σ1 (Ko k)=some r→exec M ti nt (Bh ti M nt) (.loop c) σ KP:=by
   intro k hk σ σ1 hw e
   refine (M.lock_iff _).2 (.inl ⟨fun j σ=>j≤n∧CN (E j) ti nt c (2*B0 way) σ (L7 (E j).res (B0 way) (Ko j))=some r,k,⟨σ1,hw,hk,e⟩,?_⟩)
   rintro j σ2 ⟨hj,e2⟩
   refine (E8 hd hc hr c (false::way) j (fun m=>L7 (E m).res (B0 way) (Ko m)) _ (Nat.le_trans hj hn) (fun m hm=>by show (match D2 (E m) ti nt body Kf way with | some x=>_ | none=>_)=_;rw[h1 m (Nat.le_trans hm hj)];rfl) (fun m e σ hm he=>?_)).1 σ2 e2
   cases e with
   | exit id=>exact h2 m _ _ (Nat.le_trans hm hj) he
   | ret=>exact h2 m _ _ (Nat.le_trans hm hj) he
   | normal=>
    obtain⟨m',σ',way',g1,g2,g3,g4⟩:=hr m (Nat.le_trans (Nat.le_trans hm hj) hn) (B0 way) σ he
    obtain rfl:=Fw g3
    unfold Ig at g4
    rw[h1 m' (Nat.le_trans (Nat.le_of_lt g1) (Nat.le_trans hm hj))]at g4
    exact⟨m',σ',Nat.lt_of_lt_of_le g1 hm,g2,Nat.le_trans (Nat.le_of_lt g1) (Nat.le_trans hm hj),g4⟩
  refine⟨fun σ e=>?_,fun σ e=>at' n (Nat.le_refl _) σ σ (fun _ _ _ h=>h) e⟩
  obtain⟨m',σ',way',g1,g2,g3,g4⟩:=hr n hn (B0 way) σ e
  obtain rfl:=Fw g3
  unfold Ig at g4
  rw[h1 m' (Nat.le_of_lt g1)]at g4
  exact at' m' (Nat.le_of_lt g1) σ σ' g2 g4
 | .seq a b,way,n,Ko,KP,hn,h1,h2=>by
  have hb:∀m,m≤n→D2 (E m) ti nt body Kf (true::way)=some (b,2*B0 way+1,Ko m):=fun m hm=>by show (match D2 (E m) ti nt body Kf way with | some x=>_ | none=>_)=_;rw[h1 m hm];rfl
  have main:∀σ,CN (E n) ti nt (.seq a b) (B0 way) σ (Ko n)=some r→exec M ti nt (Bh ti M nt) (.seq a b) σ KP:=by
   intro σ e
   refine (M.lock_iff _).2 (.inr ⟨fun σ''=>exec M ti nt (Bh ti M nt) b σ'' KP,?_,fun _ h=>h⟩)
   refine (E8 hd hc hr a (false::way) n (fun m=>Qx (E m).res (2*B0 way+1) (fun σ K=>CN (E m) ti nt b (2*B0 way+1) σ K) (Ko m)) _ hn (fun m hm=>by show (match D2 (E m) ti nt body Kf way with | some x=>_ | none=>_)=_;rw[h1 m hm];rfl) (fun m e σ hm he=>?_)).1 σ e
   cases e with
   | exit id=>exact h2 m _ _ hm he
   | ret=>exact h2 m _ _ hm he
   | normal=>
    simp only[Qx]at he
    split at he
    ·rename_i f hf
     obtain⟨m',σ',way',g1,g2,g3,g4⟩:=hr m (Nat.le_trans hm hn) (2*B0 way+1) σ (by unfold M3;rw[hf];exact he)
     obtain rfl:way'=true::way:=Fw (by rw[g3];rfl)
     unfold Ig at g4
     rw[hb m' (Nat.le_trans (Nat.le_of_lt g1) hm)]at g4
     exact⟨σ',g2,(E8 hd hc hr b (true::way) m' Ko KP (Nat.le_trans (Nat.le_trans (Nat.le_of_lt g1) hm) hn) (fun k hk=>hb k (Nat.le_trans hk (Nat.le_trans (Nat.le_of_lt g1) hm))) (fun k e σ hk=>h2 k e σ (Nat.le_trans hk (Nat.le_trans (Nat.le_of_lt g1) hm)))).2 σ' g4⟩
    ·exact⟨σ,fun _ _ _ h=>h,(E8 hd hc hr b (true::way) m Ko KP (Nat.le_trans hm hn) (fun k hk=>hb k (Nat.le_trans hk hm)) (fun k e σ hk=>h2 k e σ (Nat.le_trans hk hm))).1 σ he⟩
  exact⟨main,main⟩
 | .rangeFunc ..,_,_,_,_,_,_,_=>⟨fun _ e=>(by cases e),fun _ e=>(by cases e)⟩
 | .scope _,_,_,_,_,_,_,_=>⟨fun _ e=>(by cases e),fun _ e=>(by cases e)⟩
 | .label _,_,_,_,_,_,_,_=>⟨fun _ e=>(by cases e),fun _ e=>(by cases e)⟩
 | .goto _,_,_,_,_,_,_,_=>⟨fun _ e=>(by cases e),fun _ e=>(by cases e)⟩
 | .refuse _,_,_,_,_,_,_,_=>⟨fun _ e=>(by cases e),fun _ e=>(by cases e)⟩
end
end Go.AM
namespace Go.AM
open Go Go.RowKit
section
variable {γ:Type}{r:γ}
def Sb (ti:Types) (σ:St):List ResultVar→Option (List V1)
 | []=>some []
 | x::l=>(match (match x with
  | .tmp t=>some (Ab σ.slots t)
  | .cell a t=>Qk ti t (Ab σ.slots a) (AX σ.heap) fun out=>some out.val)with
  | some (.v y)=>(match Sb ti σ l with
   | some xs=>some (y.norm::xs)
   | none=>none)
  | _=>none)
theorem M4 {ti:Types}{σ:St}:∀{l:List ResultVar}{xs:List V1}{P:List V1→Prop},Sb ti σ l=some xs→P xs→EU ti σ l P
 | [],_,_,e,hP=>by cases e;exact hP
 | .tmp t::l,xs,P,e,hP=>by
  unfold Sb at e
  unfold EU
  simp only[]at e
  split at e
  ·rename_i y hy
   split at e
   ·rename_i ys hys
    cases e
    rw[Option.some.inj hy]
    exact M4 hys hP
   ·cases e
  ·cases e
 | .cell a t::l,xs,P,e,hP=>by
  unfold Sb at e
  unfold EU
  simp only[]at e
  split at e
  ·rename_i y hy
   split at e
   ·rename_i ys hys
    cases e
    refine Ou (fun out ho=>?_) hy
    rw[Option.some.inj ho]
    exact M4 hys hP
   ·cases e
  ·cases e
def Dx:List Id→List Id
 | []=>[]
 | i::l=>(match i with
  | .loc _=>i::Dx l
  | .ext _=>Dx l)
def Fx:Nat→Nat→List Id
 | _,0=>[]
 | j,n+1=>.ext j::Fx (j+1) n
def M5 (nm:List Id) (i:Id):Id:=match i with
 | .ext j=>.ext j
 | .loc _=>(match cU nm 0 i with
  | some k=>.loc k
  | none=>i)
def K3 (nm:List Id) (N:Nat) (i:Id):Bool:=Id.beq (Ca nm N (M5 nm i)) i
def VY (ti:Types) (rs:List ResultVar) (np:Nat) (σ:St) (fin:bJ→Option γ):Option γ:=
 match Sb ti σ rs with
 | none=>none
 | some xs=>(match Dw (AX σ.heap) (Fx 0 np),Dw (AX σ.heap) (Dx (Bs (AX σ.heap) 100 (CR xs++Fx 0 np) []))with
  | some ps,some ns=>D1 (nodupB (Dx (Bs (AX σ.heap) 100 (CR xs++Fx 0 np) [])))<|
    D1 (fS (K3 (Dx (Bs (AX σ.heap) 100 (CR xs++Fx 0 np) [])) σ.next) (SG xs))<| D1 (B4 (N1 (K3 (Dx (Bs (AX σ.heap) 100 (CR xs++Fx 0 np) [])) σ.next)) ps)<|
    D1 (B4 (N1 (K3 (Dx (Bs (AX σ.heap) 100 (CR xs++Fx 0 np) [])) σ.next)) ns)<|
    fin ⟨(SG xs).BL (M5 (Dx (Bs (AX σ.heap) 100 (CR xs++Fx 0 np) []))),ps.map (AH.BL (M5 (Dx (Bs (AX σ.heap) 100 (CR xs++Fx 0 np) [])))),ns.map (AH.BL (M5 (Dx (Bs (AX σ.heap) 100 (CR xs++Fx 0 np) []))))⟩
  | _,_=>none)
theorem KN {h:Heap}{N:Nat}{nm:List Id}:∀{n j:Nat}{ps:List AH},Dw h (Fx j n)=some ps→B4 (N1 (K3 nm N)) ps=true→EH h (Ca nm N) (ps.map (AH.BL (M5 nm))) j
 | 0,j,ps,e,_=>by cases e;trivial
 | n+1,j,ps,e,hb=>by
  unfold Fx Dw at e
  split at e
  ·rename_i o ho
   split at e
   ·rename_i r' hr
    cases e
    unfold B4 at hb
    split at hb
    ·rename_i h1
     show (match Mk (o.BL (M5 nm))with | true=>_ | false=>_)
     split
     ·exact KN hr hb
     ·exact⟨by rw[Lp (p:=K3 nm N) (fun i hi=>Id.beq_iff.1 hi) h1];exact ho,KN hr hb⟩
    ·cases hb
   ·cases e
  ·cases e
theorem Sc {h:Heap}{N:Nat}{nm:List Id}:∀{l:List Id}{ns:List AH},Dw h l=some ns→B4 (N1 (K3 nm N)) ns=true→JA h (Ca nm N) (ns.map (AH.BL (M5 nm))) l
 | [],ns,e,_=>by cases e;trivial
 | i::l,ns,e,hb=>by
  unfold Dw at e
  split at e
  ·rename_i o ho
   split at e
   ·rename_i r' hr
    cases e
    unfold B4 at hb
    split at hb
    ·rename_i h1
     exact⟨by rw[Lp (p:=K3 nm N) (fun i hi=>Id.beq_iff.1 hi) h1];exact ho,Sc hr hb⟩
    ·cases hb
   ·cases e
  ·cases e
theorem KO {post:List AH}:∀l:List Id,Ef post (Dx l)
 | []=>trivial
 | .loc _::l=>KO l
 | .ext _::l=>KO l
theorem Sd {ti:Types}{rs:List ResultVar}{np:Nat}{σ:St}{fin:bJ→Option γ}(e:VY ti rs np σ fin=some r):∃res post new,fin ⟨res,post,new⟩=some r∧La ti rs σ res post new:=by
 unfold VY at e
 split at e
 ·cases e
 ·rename_i xs hxs
  generalize hm:Bs (AX σ.heap) 100 (CR xs++Fx 0 np) []=m at e
  split at e
  ·rename_i ps ns hp hn
   obtain⟨h1,e⟩:=BE e
   obtain⟨h2,e⟩:=BE e
   obtain⟨h3,e⟩:=BE e
   obtain⟨h4,e⟩:=BE e
   exact⟨_,_,_,e,[],M4 hxs ⟨Dx m,h1,(UU (p:=K3 (Dx m) σ.next) (fun i hi=>Id.beq_iff.1 hi) h2).symm,KN hp h3,Sc hn h4,KO _⟩⟩
  ·cases e
inductive Lf where
 | I (z:Int)
 | B (b:Bool)
 | S (s:ByteArray)
 | L (l:List D)
inductive Sk where
 | int (k:IntKind)
 | bool
 | str
 | list (ag:Bool) (sz:Nat)
 | ci (k:IntKind) (z:Int)
 | cb (b:Bool)
 | nils (ag:Bool) (sz:Nat)
 | nilp
 | ptr (i:Id) (o:Nat)
 | fn (f:Nat) (cap:List Id)
 | cs (s:ByteArray)
 | el (ag:Bool) (sz:Nat)
 | nilf
inductive JI where
 | one (s:Sk)
 | agg (l:List Sk)
 | mix (l:List Sk)
abbrev Sk.z:Sk:=.int .i64
abbrev Sk.y:Sk:=.int .u8
abbrev Sk.k (z:Int):Sk:=.ci .i64 z
abbrev Sk.q (n:Nat):Sk:=.list true n
abbrev Sk.f (n:Nat):Sk:=.list false n
abbrev JI.z:JI:=.one .z
abbrev JI.y:JI:=.one .y
abbrev JI.b:JI:=.one .bool
abbrev JI.s:JI:=.one .str
abbrev JI.k (z:Int):JI:=.one (.k z)
abbrev JI.q (n:Nat):JI:=.one (.q n)
abbrev JI.f (n:Nat):JI:=.one (.f n)
abbrev JI.p (i:Id) (n:Nat):JI:=.one (.ptr i n)
def VZ:List Id→List Id→Bool
 | [],[]=>true
 | i::a,j::b=>(match Id.beq i j with
  | true=>VZ a b
  | false=>false)
 | _,_=>false
theorem Se:∀{a b:List Id},VZ a b=true→a=b
 | [],[],_=>rfl
 | i::a,j::b,h=>by
  unfold VZ at h
  split at h
  ·rename_i hb;rw[Id.beq_iff.1 hb,Se h]
  ·cases h
 | [],_::_,h=>by cases h
 | _::_,[],h=>by cases h
def iU:IntKind→IntKind→Bool:=fun a b=>decide (a=b)
def nQ:Int→Int→Bool
 | .ofNat a,.ofNat b=>Nat.beq a b
 | .negSucc a,.negSucc b=>Nat.beq a b
 | _,_=>false
theorem cX {a b:Int}(h:nQ a b=true):a=b:=by
 cases a<;>cases b<;>simp only[nQ]at h
 ·rw[Nat.eq_of_beq_eq_true h]
 ·cases h
 ·cases h
 ·rw[Nat.eq_of_beq_eq_true h]
def iV:List UInt8→List UInt8→Bool
 | [],[]=>true
 | a::l,b::m=>(match Nat.beq a.toNat b.toNat with
  | true=>iV l m
  | false=>false)
 | _,_=>false
theorem Xy:∀{a b:List UInt8},iV a b=true→a=b
 | [],[],_=>rfl
 | a::l,b::m,h=>by
  unfold iV at h
  split at h
  ·rename_i hb;rw[UInt8.toNat_inj.1 (Nat.eq_of_beq_eq_true hb),Xy h]
  ·cases h
 | [],_::_,h=>by cases h
 | _::_,[],h=>by cases h
theorem ZS {a b:ByteArray}(h:iV a.data.toList b.data.toList=true):a=b:=by
 obtain⟨a⟩:=a
 obtain⟨b⟩:=b
 rw[show a=b from Array.ext' (Xy h)]
def Hq (b:Bool) (x:Option (List Lf)):Option (List Lf):=match b with
 | true=>x
 | false=>none
theorem Bm {b:Bool}{x:Option (List Lf)}{l:List Lf}(h:Hq b x=some l):b=true∧x=some l:=by
 cases b
 ·cases h
 ·exact⟨rfl,h⟩
def Xz:Sk→CV→Option (List Lf)
 | .int k,.d (.int k' z)=>Hq (iU k k') (some [.I z])
 | .bool,.d (.bool b)=>some [.B b]
 | .str,.d (.str s)=>some [.S s]
 | .list ag sz,.d (.list ag' sz' l)=>Hq (ag==ag') (Hq (Nat.beq sz sz') (some [.L l]))
 | .ci k z,.d (.int k' z')=>Hq (iU k k') (Hq (nQ z z') (some []))
 | .cb b,.d (.bool b')=>Hq (b==b') (some [])
 | .nils ag sz,.nils ag' sz'=>Hq (ag==ag') (Hq (Nat.beq sz sz') (some []))
 | .nilp,.nilp=>some []
 | .ptr i o,.ptr i' o'=>Hq (Id.beq i i') (Hq (Nat.beq o o') (some []))
 | .fn f c,.fn f' c'=>Hq (Nat.beq f f') (Hq (VZ c c') (some []))
 | .cs s,.d (.str s')=>Hq (iV s.data.toList s'.data.toList) (some [])
 | .el ag sz,.d (.list ag' sz' [])=>Hq (ag==ag') (Hq (Nat.beq sz sz') (some []))
 | .nilf,.nilf=>some []
 | _,_=>none
def cY:Sk→List Lf→Option (CV×List Lf)
 | .int k,.I z::r=>some (.d (.int k z),r)
 | .bool,.B b::r=>some (.d (.bool b),r)
 | .str,.S s::r=>some (.d (.str s),r)
 | .list ag sz,.L l::r=>some (.d (.list ag sz l),r)
 | .ci k z,r=>some (.d (.int k z),r)
 | .cb b,r=>some (.d (.bool b),r)
 | .nils ag sz,r=>some (.nils ag sz,r)
 | .nilp,r=>some (.nilp,r)
 | .ptr i o,r=>some (.ptr i o,r)
 | .fn f c,r=>some (.fn f c,r)
 | .cs s,r=>some (.d (.str s),r)
 | .el ag sz,r=>some (.d (.list ag sz []),r)
 | .nilf,r=>some (.nilf,r)
 | _,_=>none
theorem Qz {s:Sk}{c:CV}{l:List Lf}(h:Xz s c=some l) (rest:List Lf):cY s (l++rest)=some (c,rest):=by
 unfold Xz at h
 split at h
 ·obtain⟨h1,h⟩:=Bm h
  cases h
  rw[show _=_ from of_decide_eq_true h1];rfl
 ·cases h;rfl
 ·cases h;rfl
 ·obtain⟨h1,h⟩:=Bm h
  obtain⟨h2,h⟩:=Bm h
  cases h
  rw[eq_of_beq h1,Nat.eq_of_beq_eq_true h2];rfl
 ·obtain⟨h1,h⟩:=Bm h
  obtain⟨h2,h⟩:=Bm h
  cases h
  rw[show _=_ from of_decide_eq_true h1,cX h2];rfl
 ·obtain⟨h1,h⟩:=Bm h
  cases h
  rw[eq_of_beq h1];rfl
 ·obtain⟨h1,h⟩:=Bm h
  obtain⟨h2,h⟩:=Bm h
  cases h
  rw[eq_of_beq h1,Nat.eq_of_beq_eq_true h2];rfl
 ·cases h;rfl
 ·obtain⟨h1,h⟩:=Bm h
  obtain⟨h2,h⟩:=Bm h
  cases h
  rw[Id.beq_iff.1 h1,Nat.eq_of_beq_eq_true h2];rfl
 ·obtain⟨h1,h⟩:=Bm h
  obtain⟨h2,h⟩:=Bm h
  cases h
  rw[Nat.eq_of_beq_eq_true h1,Se h2];rfl
 ·obtain⟨h1,h⟩:=Bm h
  cases h
  rw[ZS h1];rfl
 ·obtain⟨h1,h⟩:=Bm h
  obtain⟨h2,h⟩:=Bm h
  cases h
  rw[eq_of_beq h1,Nat.eq_of_beq_eq_true h2];rfl
 ·cases h;rfl
 ·cases h
def O0:List Sk→List CV→Option (List Lf)
 | [],[]=>some []
 | s::ss,c::cs=>(match Xz s c with
  | some l=>(match O0 ss cs with
   | some m=>some (l++m)
   | none=>none)
  | none=>none)
 | _,_=>none
def O1:List Sk→List Lf→Option (List CV×List Lf)
 | [],r=>some ([],r)
 | s::ss,r=>(match cY s r with
  | some (c,r)=>(match O1 ss r with
   | some (cs,r)=>some (c::cs,r)
   | none=>none)
  | none=>none)
theorem G6:∀{s:List Sk}{c:List CV}{l:List Lf},O0 s c=some l→∀rest,O1 s (l++rest)=some (c,rest)
 | [],[],l,h,rest=>by cases h;rfl
 | s::ss,c::cs,l,h,rest=>by
  unfold O0 at h
  split at h
  ·rename_i a ha
   split at h
   ·rename_i b hb
    cases h
    unfold O1
    rw[List.append_assoc,Qz ha]
    simp only[]
    rw[G6 hb]
   ·cases h
  ·cases h
 | [],_::_,_,h,_=>by cases h
 | _::_,[],_,h,_=>by cases h
def ZT:List CV→Option (List D)
 | []=>some []
 | .d x::r=>(match ZT r with
  | some l=>some (x::l)
  | none=>none)
 | _::_=>none
theorem Sf:∀l:List D,ZT (l.map CV.d)=some l
 | []=>rfl
 | x::l=>by show (match ZT (l.map CV.d)with | some l=>some (x::l) | none=>none)=_;rw[Sf l]
def ZU:JI→AV→Option (List Lf)
 | .one s,.v (.d (.agg _))=>none
 | .one s,.v (.d x)=>Xz s (.d x)
 | .one s,.v (.c (.d _))=>none
 | .one s,.v (.c x)=>Xz s x
 | .agg ss,.v (.d (.agg cs))=>O0 ss (cs.map CV.d)
 | .mix ss,.v (.agg cs)=>O0 ss cs
 | _,_=>none
def Ug:JI→List Lf→Option (AV×List Lf)
 | .one s,r=>(match cY s r with
  | some (.d x,r)=>some (.v (.d x),r)
  | some (c,r)=>some (.v (.c c),r)
  | none=>none)
 | .agg ss,r=>(match O1 ss r with
  | some (cs,r)=>(match ZT cs with
   | some ds=>some (.v (.d (.agg ds)),r)
   | none=>none)
  | none=>none)
 | .mix ss,r=>(match O1 ss r with
  | some (cs,r)=>some (.v (.agg cs),r)
  | none=>none)
theorem Sg {s:JI}{c:AV}{l:List Lf}(h:ZU s c=some l) (rest:List Lf):Ug s (l++rest)=some (c,rest):=by
 unfold ZU at h
 split at h
 ·cases h
 ·unfold Ug;simp only[];rw[Qz h]
 ·cases h
 ·rename_i x hx
  unfold Ug
  simp only[]
  rw[Qz h]
  cases x<;>first | rfl | exact absurd rfl (hx _)
 ·unfold Ug;simp only[];rw[G6 h];simp only[];rw[Sf]
 ·unfold Ug;simp only[];rw[G6 h]
 ·cases h
end
end Go.AM
namespace Go.AM
open Go Go.RowKit
section
variable {γ:Type}{r:γ}
def O2:List JI→List AV→Option (List Lf)
 | [],[]=>some []
 | s::ss,c::cs=>(match ZU s c with
  | some l=>(match O2 ss cs with
   | some m=>some (l++m)
   | none=>none)
  | none=>none)
 | _,_=>none
def GZ:List JI→List Lf→Option (List AV×List Lf)
 | [],r=>some ([],r)
 | s::ss,r=>(match Ug s r with
  | some (c,r)=>(match GZ ss r with
   | some (cs,r)=>some (c::cs,r)
   | none=>none)
  | none=>none)
theorem Hg:∀{s:List JI}{c:List AV}{l:List Lf},O2 s c=some l→∀rest,GZ s (l++rest)=some (c,rest)
 | [],[],l,h,rest=>by cases h;rfl
 | s::ss,c::cs,l,h,rest=>by
  unfold O2 at h
  split at h
  ·rename_i a ha
   split at h
   ·rename_i b hb
    cases h
    unfold GZ
    rw[List.append_assoc,Sg ha]
    simp only[]
    rw[Hg hb]
   ·cases h
  ·cases h
 | [],_::_,_,h,_=>by cases h
 | _::_,[],_,h,_=>by cases h
def Hu:List (List Sk)→List AH→Option (List Lf)
 | [],[]=>some []
 | s::ss,.cells cs::os=>(match O0 s cs with
  | some l=>(match Hu ss os with
   | some m=>some (l++m)
   | none=>none)
  | none=>none)
 | _,_=>none
def EO:List (List Sk)→List Lf→Option (List AH×List Lf)
 | [],r=>some ([],r)
 | s::ss,r=>(match O1 s r with
  | some (c,r)=>(match EO ss r with
   | some (os,r)=>some (.cells c::os,r)
   | none=>none)
  | none=>none)
theorem DP:∀{s:List (List Sk)}{c:List AH}{l:List Lf},Hu s c=some l→∀rest,EO s (l++rest)=some (c,rest)
 | [],[],l,h,rest=>by cases h;rfl
 | s::ss,.cells cs::os,l,h,rest=>by
  unfold Hu at h
  split at h
  ·rename_i a ha
   split at h
   ·rename_i b hb
    cases h
    unfold EO
    rw[List.append_assoc,G6 ha]
    simp only[]
    rw[DP hb]
   ·cases h
  ·cases h
 | [],_::_,_,h,_=>by cases h
 | s::ss,o::os,l,h,rest=>by
  cases o with
  | cells cs=>
   unfold Hu at h
   split at h
   ·rename_i a ha
    split at h
    ·rename_i b hb
     cases h
     unfold EO
     rw[List.append_assoc,G6 ha]
     simp only[]
     rw[DP hb]
    ·cases h
   ·cases h
  | _=>cases h
 | _::_,[],_,h,_=>by cases h
def N3 {α β:Type}:List α→List β→List (α×β)
 | a::l,b::m=>(a,b)::N3 l m
 | _,_=>[]
inductive Ty where
 | I
 | B
 | S
 | L
def rN:Sk→List Ty→List Ty
 | .int _,l=>.I::l
 | .bool,l=>.B::l
 | .str,l=>.S::l
 | .list _ _,l=>.L::l
 | _,l=>l
def ZV:List Sk→List Ty→List Ty
 | [],l=>l
 | s::ss,l=>rN s (ZV ss l)
def Si:List JI→List Ty→List Ty
 | [],l=>l
 | s::ss,l=>(match s with
  | .one c=>rN c (Si ss l)
  | .agg cs=>ZV cs (Si ss l)
  | .mix cs=>ZV cs (Si ss l))
def Wf:List (List Sk)→List Ty
 | []=>[]
 | s::ss=>ZV s (Wf ss)
def Va (ρ:Type):List Ty→Type
 | []=>Option ρ
 | .I::l=>Int→Va ρ l
 | .B::l=>Bool→Va ρ l
 | .S::l=>ByteArray→Va ρ l
 | .L::l=>List D→Va ρ l
def Vb:(l:List Ty)→Va γ l→List Lf→Option γ
 | [],x,[]=>x
 | .I::l,f,.I z::r=>Vb l (f z) r
 | .B::l,f,.B z::r=>Vb l (f z) r
 | .S::l,f,.S z::r=>Vb l (f z) r
 | .L::l,f,.L z::r=>Vb l (f z) r
 | _,_,_=>none
def M6:(l:List Ty)→(List Lf→Option γ)→Va γ l
 | [],f=>f []
 | .I::l,f=>fun z=>M6 l fun r=>f (.I z::r)
 | .B::l,f=>fun z=>M6 l fun r=>f (.B z::r)
 | .S::l,f=>fun z=>M6 l fun r=>f (.S z::r)
 | .L::l,f=>fun z=>M6 l fun r=>f (.L z::r)
theorem E9:∀{l:List Ty}{f:List Lf→Option γ}{v:List Lf},Vb l (M6 l f) v=some r→f v=some r
 | [],f,[],h=>h
 | .I::l,f,.I z::v,h=>E9 (l:=l) (f:=fun r=>f (.I z::r)) (v:=v) h
 | .B::l,f,.B z::v,h=>E9 (l:=l) (f:=fun r=>f (.B z::r)) (v:=v) h
 | .S::l,f,.S z::v,h=>E9 (l:=l) (f:=fun r=>f (.S z::r)) (v:=v) h
 | .L::l,f,.L z::v,h=>E9 (l:=l) (f:=fun r=>f (.L z::r)) (v:=v) h
 | [],_,_::_,h=>by cases h
 | .I::_,_,[],h=>by cases h
 | .B::_,_,[],h=>by cases h
 | .S::_,_,[],h=>by cases h
 | .L::_,_,[],h=>by cases h
 | .I::_,_,.B _::_,h=>by cases h
 | .I::_,_,.S _::_,h=>by cases h
 | .I::_,_,.L _::_,h=>by cases h
 | .B::_,_,.I _::_,h=>by cases h
 | .B::_,_,.S _::_,h=>by cases h
 | .B::_,_,.L _::_,h=>by cases h
 | .S::_,_,.I _::_,h=>by cases h
 | .S::_,_,.B _::_,h=>by cases h
 | .S::_,_,.L _::_,h=>by cases h
 | .L::_,_,.I _::_,h=>by cases h
 | .L::_,_,.B _::_,h=>by cases h
 | .L::_,_,.S _::_,h=>by cases h
class Res (ρ:Type) where
  pack:ρ→List Lf
  unp:List Lf→Option (ρ×List Lf)
  law:∀{l p q},unp l=some (p,q)→l=pack p++q
instance:Res Unit:=⟨fun _=>[],fun l=>some ((),l),fun h=>by cases h;rfl⟩
instance:Res Int:=⟨fun z=>[.I z],fun l=>match l with | .I z::q=>some (z,q) | _=>none,fun h=>by split at h<;>cases h;rfl⟩
instance:Res Bool:=⟨fun z=>[.B z],fun l=>match l with | .B z::q=>some (z,q) | _=>none,fun h=>by split at h<;>cases h;rfl⟩
instance:Res ByteArray:=⟨fun z=>[.S z],fun l=>match l with | .S z::q=>some (z,q) | _=>none,fun h=>by split at h<;>cases h;rfl⟩
instance:Res (List D):=⟨fun z=>[.L z],fun l=>match l with | .L z::q=>some (z,q) | _=>none,fun h=>by split at h<;>cases h;rfl⟩
instance {α β:Type} [Res α] [Res β]:Res (α×β):=⟨fun p=>Res.pack p.1++Res.pack p.2,fun l=>match (Res.unp l:Option (α×List Lf))with
  | some (a,l)=>(match (Res.unp l:Option (β×List Lf))with
    | some (b,l)=>some ((a,b),l)
    | none=>none)
  | none=>none,fun h=>by
    split at h
    · rename_i ha
      split at h
      · rename_i hb
        cases h
        rw[Res.law ha,Res.law hb,List.append_assoc]
      · cases h
    · cases h⟩
class Rez (ρ:Type) where
 elim:{γ:Type}→ρ→(Nat→List Lf→Option γ)→Option γ
 alt:ρ→Nat
 pack:ρ→List Lf
 law:∀{γ:Type} {p:ρ} {k:Nat→List Lf→Option γ},elim p k=k (alt p) (pack p)
instance rezOf {ρ:Type} [Res ρ]:Rez ρ:=⟨fun p k=>k 0 (Res.pack p),fun _=>0,Res.pack,rfl⟩
instance {α β:Type} [Res α] [Rez β]:Rez (α ⊕ β):=⟨fun p k=>match p with
  | .inl a=>k 0 (Res.pack a)
  | .inr b=>Rez.elim b fun i l=>k (i+1) l,fun p=>match p with
  | .inl _=>0
  | .inr b=>Rez.alt b+1,fun p=>match p with
  | .inl a=>Res.pack a
  | .inr b=>Rez.pack b,fun {γ p k}=>by
    cases p with
    | inl a=>rfl
    | inr b=>exact Rez.law⟩
def ZW (ρ:Type) [Res ρ] (l:List Lf):Option ρ:=match (Res.unp l:Option (ρ×List Lf))with
 | some (p,[])=>some p
 | _=>none
theorem Wg {ρ:Type} [Res ρ] {l:List Lf}{p:ρ}(h:ZW ρ l=some p):l=Res.pack p:=by
 unfold ZW at h
 split at h
 ·rename_i hu
  cases h
  rw[Res.law hu,List.append_nil]
 ·cases h
structure Site (γ:Type) where
 p:Nat
 ks:List Nat
 is:List Id
 nx:Nat
 sk:List JI
 hk:List (List Sk)
 app:Nat→Va γ (Si sk (Wf hk))
def Site.st (s:Site γ) (lv:List Lf):Option St:=
 match GZ s.sk lv with
 | some (vs,lv)=>(match EO s.hk lv with
  | some (os,_)=>some ⟨N3 s.ks vs,N3 s.is os,s.nx⟩
  | none=>none)
 | none=>none
def Uh (ks:List Nat) (is:List Id) (n:Nat) (σ:St):Option (List AV×List AH):=
 match Dw (AX σ.heap) is with
 | none=>none
 | some os=>D1 (B4 (Y4 n) (ks.map (Ab σ.slots)))<| D1 (B4 (fun x:Id×AH=>match LY n x.1 with | true=>XG n x.2 | false=>false) (N3 is os)) (some (ks.map (Ab σ.slots),os))
theorem M7 {l:List (Id×AH)}:∀{is:List Id}{os:List AH},Dw (AX l) is=some os→Ku l is=some (N3 is os)
 | [],os,h=>by cases h;rfl
 | i::is,os,h=>by
  unfold Dw at h
  split at h
  ·rename_i o ho
   split at h
   ·rename_i r' hr
    cases h
    unfold Ku
    rw[ho,M7 hr]
    rfl
   ·cases h
  ·cases h
theorem O3 (l:List (Nat×AV)):∀ks:List Nat,Gz l ks=N3 ks (ks.map (Ab l))
 | []=>rfl
 | k::ks=>by show (k,Ab l k)::Gz l ks=(k,Ab l k)::N3 ks (ks.map (Ab l));rw[O3 l ks]
theorem Vc {n:Nat}(l:List (Nat×AV)):∀ks:List Nat,B4 (Y4 n) (ks.map (Ab l))=true→B4 (fun x:Nat×AV=>Y4 n x.2) (N3 ks (ks.map (Ab l)))=true
 | [],_=>rfl
 | k::ks,h=>by
  unfold List.map B4 at h
  split at h
  ·rename_i hk
   show (match Y4 n (Ab l k)with | true=>_ | false=>_)=true
   rw[hk]
   exact Vc l ks h
  ·cases h
theorem Wh {ks:List Nat}{is:List Id}{n:Nat}{σ:St}{vs:List AV}{os:List AH}(h:Uh ks is n σ=some (vs,os)):∃σ',CH σ σ'∧σ'=⟨N3 ks vs,N3 is os,n⟩:=by
 unfold Uh at h
 split at h
 ·cases h
 ·rename_i os' ho
  obtain⟨h1,h⟩:=BE h
  obtain⟨h2,h⟩:=BE h
  cases h
  refine Fq (K:=fun σ'=>σ'=_) (ks:=ks) (is:=is) (n:=n) ?_
  unfold LZ
  rw[M7 ho,O3]
  exact AN.2 ⟨Vc _ _ h1,AN.2 ⟨h2,rfl⟩⟩
def Site.run (s:Site γ) (n:Nat) (σ:St):Option (Option γ):=
 match Uh s.ks s.is s.nx σ with
 | some (vs,os)=>(match O2 s.sk vs with
  | some a=>(match Hu s.hk os with
   | some b=>some (Vb _ (s.app n) (a++b))
   | none=>none)
  | none=>none)
 | none=>none
theorem Site.fQ {s:Site γ}{n:Nat}{σ:St}(h:s.run n σ=some (some r)):∃lv σ',Vb _ (s.app n) lv=some r∧s.st lv=some σ'∧CH σ σ':=by
 unfold Site.run at h
 split at h
 ·rename_i vs os hk
  split at h
  ·rename_i a ha
   split at h
   ·rename_i b hb
    obtain⟨σ',hw,rfl⟩:=Wh hk
    refine⟨_,_,Option.some.inj h,?_,hw⟩
    unfold Site.st
    rw[Hg ha]
    simp only[]
    rw[←List.append_nil b,DP hb]
   ·cases h
  ·cases h
 ·cases h
def O4:List (Site γ)→Nat→Nat→St→Option (Option γ)
 | [],_,_,_=>none
 | s::l,n,p,σ=>(match Nat.beq s.p p with
  | true=>(match s.run n σ with
   | some x=>some x
   | none=>O4 l n p σ)
  | false=>O4 l n p σ)
theorem Sj:∀{l:List (Site γ)}{n p:Nat}{σ:St},O4 l n p σ=some (some r)→∃s∈l,s.p=p∧s.run n σ=some (some r)
 | s::l,n,p,σ,h=>by
  have rest:O4 l n p σ=some (some r)→∃s'∈s::l,s'.p=p∧s'.run n σ=some (some r):=fun h=>by
   obtain⟨s',h1,h2⟩:=Sj h
   exact⟨s',List.mem_cons_of_mem _ h1,h2⟩
  unfold O4 at h
  split at h
  ·rename_i hb
   split at h
   ·rename_i x hx
    cases h
    exact⟨s,List.mem_cons_self ..,Nat.eq_of_beq_eq_true hb,hx⟩
   ·exact rest h
  ·exact rest h
 | [],_,_,_,h=>by cases h
inductive uI where
 | one (s:JI)
 | tup (l:List JI)
structure JJ where
 res:uI
 post:List (List Sk)
 new:List (List Sk)
def ZX (s:JJ) (x:bJ):Option (List Lf):=
 match s.res,x.res with
 | .one a,.v y=>(match ZU a (.v y)with
  | some l=>(match Hu s.post x.post with
   | some m=>(match Hu s.new x.new with
    | some n=>some (l++(m++n))
    | none=>none)
   | none=>none)
  | none=>none)
 | .tup xs1,.t ys=>(match O2 xs1 (ys.map AV.v)with
  | some l=>(match Hu s.post x.post with
   | some m=>(match Hu s.new x.new with
    | some n=>some (l++(m++n))
    | none=>none)
   | none=>none)
  | none=>none)
 | _,_=>none
def X4:List AV→Option (List V1)
 | []=>some []
 | .v x::l=>(match X4 l with
  | some m=>some (x::m)
  | none=>none)
 | _::_=>none
theorem Q0:∀l:List V1,X4 (l.map AV.v)=some l
 | []=>rfl
 | x::l=>by show (match X4 (l.map AV.v)with | some m=>some (x::m) | none=>none)=_;rw[Q0 l]
def Q1 (s:JJ) (lv:List Lf):Option bJ:=
 match s.res with
 | .one a=>(match Ug a lv with
  | some (y,lv)=>(match EO s.post lv with
   | some (os,lv)=>(match EO s.new lv with
    | some (ns,_)=>some ⟨y,os,ns⟩
    | none=>none)
   | none=>none)
  | none=>none)
 | .tup xs1=>(match GZ xs1 lv with
  | some (ys,lv)=>(match X4 ys with
   | some xs=>(match EO s.post lv with
    | some (os,lv)=>(match EO s.new lv with
     | some (ns,_)=>some ⟨.t xs,os,ns⟩
     | none=>none)
    | none=>none)
   | none=>none)
  | none=>none)
theorem X5:∀{s:JJ}{x:bJ}{l:List Lf},ZX s x=some l→Q1 s l=some x
 | ⟨.one a,ps,qs⟩,⟨.v y,post,new⟩,l,h=>by
  unfold ZX at h
  simp only[]at h
  split at h
  ·rename_i l1 h1
   split at h
   ·rename_i l2 h2
    split at h
    ·rename_i l3 h3
     cases h
     unfold Q1
     simp only[]
     rw[Sg h1]
     simp only[]
     rw[DP h2]
     simp only[]
     rw[←List.append_nil l3,DP h3]
    ·cases h
   ·cases h
  ·cases h
 | ⟨.tup xs1,ps,qs⟩,⟨.t ys,post,new⟩,l,h=>by
  unfold ZX at h
  simp only[]at h
  split at h
  ·rename_i l1 h1
   split at h
   ·rename_i l2 h2
    split at h
    ·rename_i l3 h3
     cases h
     unfold Q1
     simp only[]
     rw[Hg h1]
     simp only[]
     rw[Q0]
     simp only[]
     rw[DP h2]
     simp only[]
     rw[←List.append_nil l3,DP h3]
    ·cases h
   ·cases h
  ·cases h
 | ⟨.one _,_,_⟩,⟨.t _,_,_⟩,_,h=>by cases h
 | ⟨.tup _,_,_⟩,⟨.v _,_,_⟩,_,h=>by cases h
 | ⟨.one _,_,_⟩,⟨.u,_,_⟩,_,h=>by cases h
 | ⟨.tup _,_,_⟩,⟨.u,_,_⟩,_,h=>by cases h
def ZY:List JJ→Nat→Option JJ
 | [],_=>none
 | s::_,0=>some s
 | _::l,n+1=>ZY l n
structure BW where
 f:FuncId
 args:List JI
 pre:List (List Sk)
 ret:List JJ
 ρ:Type
 inst:Rez ρ
 F:Nat→Va ρ (Si args (Wf pre))
def BW.ok (P:Program) (I:Inv) (c:BW) (n:Nat):Prop:=∀lv p,Vb _ (c.F n) lv=some p→∀xs1 pre rk ret l1 l2,GZ c.args lv=some (xs1,l1)→EO c.pre l1=some (pre,l2)→ZY c.ret (c.inst.alt p)=some rk→Q1 rk (c.inst.pack p)=some ret→∀xs,X4 xs1=some xs→BB P I c.f xs pre ret.res ret.post ret.new
def KQ:List BW→Nat→Cl γ
 | [],_,_,_,_,_=>none
 | c::l,n,f,args,pre,k=>(match Nat.beq c.f f with
  | true=>(match O2 c.args (args.map AV.v)with
   | some a=>(match Hu c.pre pre with
    | some b=>(match Vb _ (c.F n) (a++b)with
     | some p=>c.inst.elim p fun i l=>(match ZY c.ret i with
      | some rk=>(match Q1 rk l with
       | some ret=>k ret
       | none=>none)
      | none=>none)
     | none=>none)
    | none=>KQ l n f args pre k)
   | none=>KQ l n f args pre k)
  | false=>KQ l n f args pre k)
theorem O5 {P:Program}{I:Inv}{n:Nat}:∀{l:List BW},(∀c∈l,c.ok P I n)→(KQ l n:Cl γ).ok P I
 | [],_=>fun _ _ _ _ _ h=>by cases h
 | c::l,hc=>fun f args pre k r h=>by
  have rest:=O5 (P:=P) (I:=I) (n:=n) (l:=l) fun c' hc'=>hc c' (List.mem_cons_of_mem _ hc')
  unfold KQ at h
  split at h
  ·rename_i hf
   split at h
   ·rename_i a ha
    split at h
    ·rename_i b hb
     split at h
     ·rename_i p hp
      rw[c.inst.law]at h
      split at h
      ·rename_i rk hrk
       split at h
       ·rename_i ret hr
        have e1:=Hg ha b
        have e2:=DP hb []
        rw[List.append_nil]at e2
        have:=hc c (List.mem_cons_self ..) _ _ hp _ _ _ _ _ _ e1 e2 hrk hr args (Q0 args)
        rw[Nat.eq_of_beq_eq_true hf]at this
        exact⟨_,_,_,this,h⟩
       ·cases h
      ·cases h
     ·cases h
    ·exact rest f args pre k r h
   ·exact rest f args pre k r h
  ·exact rest f args pre k r h
def Wi:(l:List Ty)→Va γ l→(List Lf→γ→Prop)→Prop
 | [],x,P=>∀p,x=some p→P [] p
 | .I::l,f,P=>∀z,Wi l (f z) fun v p=>P (.I z::v) p
 | .B::l,f,P=>∀z,Wi l (f z) fun v p=>P (.B z::v) p
 | .S::l,f,P=>∀z,Wi l (f z) fun v p=>P (.S z::v) p
 | .L::l,f,P=>∀z,Wi l (f z) fun v p=>P (.L z::v) p
theorem JK:∀{l:List Ty}{f:Va γ l}{P:List Lf→γ→Prop}{v:List Lf}{p:γ},Wi l f P→Vb l f v=some p→P v p
 | [],_,_,[],_,h,e=>h _ e
 | .I::l,f,P,.I z::v,_,h,e=>JK (l:=l) (f:=f z) (P:=fun v p=>P (.I z::v) p) (v:=v) (h z) e
 | .B::l,f,P,.B z::v,_,h,e=>JK (l:=l) (f:=f z) (P:=fun v p=>P (.B z::v) p) (v:=v) (h z) e
 | .S::l,f,P,.S z::v,_,h,e=>JK (l:=l) (f:=f z) (P:=fun v p=>P (.S z::v) p) (v:=v) (h z) e
 | .L::l,f,P,.L z::v,_,h,e=>JK (l:=l) (f:=f z) (P:=fun v p=>P (.L z::v) p) (v:=v) (h z) e
 | [],_,_,_::_,_,_,h=>by cases h
 | .I::_,_,_,[],_,_,h=>by cases h
 | .B::_,_,_,[],_,_,h=>by cases h
 | .S::_,_,_,[],_,_,h=>by cases h
 | .L::_,_,_,[],_,_,h=>by cases h
 | .I::_,_,_,.B _::_,_,_,h=>by cases h
 | .I::_,_,_,.S _::_,_,_,h=>by cases h
 | .I::_,_,_,.L _::_,_,_,h=>by cases h
 | .B::_,_,_,.I _::_,_,_,h=>by cases h
 | .B::_,_,_,.S _::_,_,_,h=>by cases h
 | .B::_,_,_,.L _::_,_,_,h=>by cases h
 | .S::_,_,_,.I _::_,_,_,h=>by cases h
 | .S::_,_,_,.B _::_,_,_,h=>by cases h
 | .S::_,_,_,.L _::_,_,_,h=>by cases h
 | .L::_,_,_,.I _::_,_,_,h=>by cases h
 | .L::_,_,_,.B _::_,_,_,h=>by cases h
 | .L::_,_,_,.S _::_,_,_,h=>by cases h
theorem Di {P:Program}{I:Inv}{c:BW}{n:Nat}(h:Wi _ (c.F n) fun lv p=>∀xs1 pre rk ret l1 l2,GZ c.args lv=some (xs1,l1)→EO c.pre l1=some (pre,l2)→ZY c.ret (c.inst.alt p)=some rk→Q1 rk (c.inst.pack p)=some ret→∀xs,X4 xs1=some xs→BB P I c.f xs pre ret.res ret.post ret.new):c.ok P I n:=fun _ _ e=>JK h e
def Sl (ti:Types) (rs:List ResultVar) (np:Nat) (fin:bJ→Option γ):Kt γ
 | .exit _,_=>none
 | .normal,σ=>VY ti rs np σ fin
 | .ret,σ=>VY ti rs np σ fin
def Sm (ds:Ds γ) (cs:List BW) (ss:List (Site γ)) (n:Nat):Env γ:=⟨ds,KQ cs n,O4 ss n⟩
def Site.ok (ds:Ds γ) (cs:List BW) (ss:List (Site γ)) (ti:Types) (nt:Nat) (body:Code) (K:Kt γ) (s:Site γ):Prop:=
 (∀lv r,Vb _ (s.app 0) lv≠some r)∧B0 (Sa 60 s.p)=s.p∧∀n lv σ r,Vb _ (s.app (n+1)) lv=some r→s.st lv=some σ→Ig (Sm ds cs ss n) ti nt body K (Sa 60 s.p) σ=some r
def JL (s:JJ) (out:List Lf→Option γ) (x:bJ):Option γ:=
 match ZX s x with
 | some l=>out l
 | none=>none
theorem Dh.mM {P:Program}{I:Inv}{f:FuncId}{args:List V1}{pre:List AH}{Q Q':AV→List AH→List AH→Prop}(hq:∀a b c,Q a b c→Q' a b c) (h:Dh P I f args pre Q):Dh P I f args pre Q':=
 ⟨h.1,fun w X g vals k1 k2 k3 k4 k5 k6=>Calls.mono (h.2 w X g vals k1 k2 k3 k4 k5 k6) fun e w' ⟨v,g',res,post,new,q,he,hp⟩=>⟨v,g',res,post,new,hq _ _ _ q,he,hp⟩⟩
theorem cZ {P:Program}{I:Inv}{ti:Types}(hti:BN P ti) (h1:Bu ti) (hm:P.follows .mixedOrders=true) {f:FuncId}{fn:Func}{c:Code}(hf:P.funcs[f]?=some fn) (hb:fn.body=some c)
  (hname:(fn.name== "runtime.NumGoroutine")=false) {args:List V1} {pre post new:List AH} {res:AV} {nt:Nat} (hnt:fn.ntmps=nt) (hargs:Nat.ble args.length nt=true) {rs:List ResultVar} (hrs:fn.results.toList=rs)
  {ds:Ds γ} (hd:ds.ok) {cs:List BW} {ss:List (Site γ)} {N np:Nat} {rk:JJ} {out:List Lf→Option γ} (hc:∀m,m≤N→∀c∈cs,c.ok P I m) (hs:∀s∈ss,s.ok ds cs ss ti nt c (Sl ti rs np (JL rk out)))
  (hx:Ig (Sm ds cs ss N) ti nt c (Sl ti rs np (JL rk out)) [] ⟨slotsOf args 0,B9 pre 0,0⟩=some r) (ho:∀l,out l=some r→Q1 rk l=some ⟨res,post,new⟩):BB P I f args pre res post new:=by
 have main:Dh P I f args pre fun a b c=>JL rk out ⟨a,b,c⟩=some r:=by
  refine Dh.of hti h1 hm hf hb hname hnt hargs hrs fun M hP hI=>?_
  have:=(E8 (M:=M) (N:=N) (E:=Sm ds cs ss) (Kf:=Sl ti rs np (JL rk out)) (body:=c) (ti:=ti) (nt:=nt) (r:=r) (fun _ _=>hd) (fun m hm=>by rw[hP,hI];exact O5 (hc m hm)) (fun m hm p σ e=>?_) c [] N (fun _=>Sl ti rs np (JL rk out))
   (fun e σ=>match e with
   | .exit _=>False
   | .normal=>∃res post new,JL rk out ⟨res,post,new⟩=some r∧La ti rs σ res post new
   | .ret=>∃res post new,JL rk out ⟨res,post,new⟩=some r∧La ti rs σ res post new) (Nat.le_refl _) (fun _ _=>rfl) (fun m e σ _ h=>?_)).2 _ hx
  ·exact this
  ·unfold M3 Sm at e
   simp only[]at e
   split at e
   ·rename_i x hx
    subst e
    obtain⟨s,hmem,rfl,e⟩:=Sj hx
    obtain⟨lv,σ',g1,g2,g3⟩:=Site.fQ e
    obtain⟨k1,k2,k3⟩:=hs s hmem
    cases m with
    | zero=>exact absurd g1 (k1 _ _)
    | succ m=>exact⟨m,σ',_,Nat.lt_succ_self m,g3,k2,k3 m lv σ' r g1 g2⟩
   ·cases e
  ·cases e with
   | exit id=>cases h
   | normal=>exact Sd h
   | ret=>exact Sd h
 refine main.mM fun a b c h=>?_
 unfold JL at h
 split at h
 ·rename_i l hl
  have h1:=X5 hl
  rw[ho l h]at h1
  cases h1
  exact⟨rfl,rfl,rfl⟩
 ·cases h
def X6 (f:Func):Code:=match f.body with
 | some c=>c
 | none=>.skip
structure BS where
 f:FuncId
 fn:Func
 args:List JI
 pre:List (List Sk)
 ret:JJ
 ρ:Type
 inst:Res ρ
 F:Nat→Va ρ (Si args (Wf pre))
 sites:List (Site ρ)
def BS.c (x:BS):BW:=⟨x.f,x.args,x.pre,[x.ret],x.ρ,@rezOf x.ρ x.inst,x.F⟩
def BS.go (ds:(γ:Type)→Ds γ) (ti:Types) (x:BS) (cs:List BW) (n p:Nat) (σ:Option St):Option x.ρ:=
 match σ with
 | some σ=>Ig (Sm (ds _) cs x.sites n) ti x.fn.ntmps (X6 x.fn) (Sl ti x.fn.results.toList x.pre.length (JL x.ret (@ZW x.ρ x.inst))) (Sa 60 p) σ
 | none=>none
def BS.st (x:BS) (lv:List Lf):Option St:=
 match GZ x.args lv with
 | some (xs1,l)=>(match X4 xs1 with
  | some xs=>(match EO x.pre l with
   | some (os,_)=>some ⟨slotsOf xs 0,B9 os 0,0⟩
   | none=>none)
  | none=>none)
 | none=>none
def JM:(l:List Ty)→Va γ l
 | []=>none
 | .I::l=>fun _=>JM l
 | .B::l=>fun _=>JM l
 | .S::l=>fun _=>JM l
 | .L::l=>fun _=>JM l
theorem Sn:∀{l:List Ty}{v:List Lf},Vb l (JM (γ:=γ) l) v≠some r
 | l,v,h=>by
  have:JM (γ:=γ) l=M6 l fun _=>none:=by
   clear h
   induction l with
   | nil=>rfl
   | cons t l ih=>cases t<;>(funext z;exact ih)
  rw[this]at h
  cases E9 h
def iW (γ:Type):List (Site γ)→Type
 | []=>Unit
 | s::l=>(Va γ (Si s.sk (Wf s.hk))×(Nat→Va γ (Si s.sk (Wf s.hk))))×iW γ l
def KR:(l:List (Site γ))→iW γ l
 | []=>()
 | s::l=>((s.app 0,fun n=>s.app (n+1)),KR l)
def KS (go:Nat→Nat→Option St→Option γ):(l:List (Site γ))→iW γ l
 | []=>()
 | s::l=>((JM _,fun n=>M6 _ fun lv=>go n s.p (s.st lv)),KS go l)
def BS.uH (ds:(γ:Type)→Ds γ) (ti:Types) (x:BS) (cs:List BW):Prop:=
 KR x.sites=KS (BS.go ds ti x cs) x.sites∧(x.F 0,fun n=>x.F (n+1))=(JM _,fun n=>M6 _ fun lv=>BS.go ds ti x cs n 1 (x.st lv))
def BS.rH (ds:(γ:Type)→Ds γ) (ti:Types) (x:BS) (cs:List BW):Prop:=
 KR x.sites=KS (BS.go ds ti x cs) x.sites∧x.F=fun n=>M6 _ fun lv=>BS.go ds ti x cs n 1 (x.st lv)
theorem Vd {go:Nat→Nat→Option St→Option γ}:∀{l:List (Site γ)},KR l=KS go l→∀s∈l,(s.app 0=JM _∧(fun n=>s.app (n+1))=fun n=>M6 _ fun lv=>go n s.p (s.st lv))
 | s::l,h,t,ht=>by
  have h1:=congrArg (fun x:iW γ (s::l)=>x.1) h
  have h2:=congrArg (fun x:iW γ (s::l)=>x.2) h
  cases ht with
  | head=>exact⟨congrArg Prod.fst h1,congrArg Prod.snd h1⟩
  | tail _ ht=>exact Vd h2 t ht
 | [],_,_,ht=>by cases ht
def BS.fits (P:Program) (x:BS):Bool:=
 (match x.fn.body with
 | some _=>true
 | none=>false)&&!(x.fn.name== "runtime.NumGoroutine")&&Nat.ble x.args.length x.fn.ntmps&&B4 (fun s:Site x.ρ=>Nat.beq (B0 (Sa 60 s.p)) s.p) x.sites
theorem Ve:∀{l:List AV}{xs:List V1},X4 l=some xs→xs.length=l.length
 | [],xs,h=>by cases h;rfl
 | .v x::l,xs,h=>by
  unfold X4 at h
  split at h
  ·rename_i m hm;cases h;simp[Ve hm]
  ·cases h
theorem O6:∀{s:List JI}{l:List Lf}{xs1:List AV}{q:List Lf},GZ s l=some (xs1,q)→xs1.length=s.length
 | [],l,xs1,q,h=>by cases h;rfl
 | s::ss,l,xs1,q,h=>by
  unfold GZ at h
  split at h
  ·split at h
   ·rename_i h2;cases h;simp[O6 h2]
   ·cases h
  ·cases h
theorem O7:∀{s:List (List Sk)}{l:List Lf}{xs1:List AH}{q:List Lf},EO s l=some (xs1,q)→xs1.length=s.length
 | [],l,xs1,q,h=>by cases h;rfl
 | s::ss,l,xs1,q,h=>by
  unfold EO at h
  split at h
  ·split at h
   ·rename_i h2;cases h;simp[O7 h2]
   ·cases h
  ·cases h
theorem BS.step {P:Program}{I:Inv}{ti:Types}(hti:BN P ti) (h1:Bu ti) (hm:P.follows .mixedOrders=true) {ds:(γ:Type)→Ds γ}(hd:∀γ,(ds γ).ok) {x:BS}{cs:List BW}(hf:P.funcs[x.f]?=some x.fn) (hx:x.fits P=true) (he:KR x.sites=KS (BS.go ds ti x cs) x.sites) {N:Nat}(hc:∀m,m≤N→∀c∈cs,c.ok P I m) {lv:List Lf}{p:x.ρ}(hp:BS.go ds ti x cs N 1 (x.st lv)=some p):
  ∀xs1 pre ret l1 l2,GZ x.args lv=some (xs1,l1)→EO x.pre l1=some (pre,l2)→Q1 x.ret (x.inst.pack p)=some ret→∀xs,X4 xs1=some xs→BB P I x.f xs pre ret.res ret.post ret.new:=by
 intro xs1 pre ret l1 l2 e1 e2 e3 xs e4
 unfold BS.fits at hx
 simp only[Bool.and_eq_true,Bool.not_eq_true']at hx
 obtain⟨⟨⟨g1,g2⟩,g3⟩,g4⟩:=hx
 obtain⟨c,hb⟩:∃c,x.fn.body=some c:=by
  cases hb:x.fn.body with
  | none=>rw[hb]at g1;cases g1
  | some c=>exact⟨c,rfl⟩
 have hbody:X6 x.fn=c:=by unfold X6;rw[hb]
 have hst:x.st lv=some ⟨slotsOf xs 0,B9 pre 0,0⟩:=by unfold BS.st;rw[e1];simp only[e4,e2]
 rw[hst]at hp
 unfold BS.go at hp
 simp only[]at hp
 have hpre:x.pre.length=pre.length:=(O7 e2).symm
 refine cZ (γ:=x.ρ) (r:=p) (N:=N) (np:=x.pre.length) (rk:=x.ret) (out:=@ZW x.ρ x.inst) (ss:=x.sites) hti h1 hm hf hb g2 rfl (by rw[Ve e4,O6 e1];exact g3) rfl (hd _) hc (fun s hs=>?_) (by rw[←hbody];exact hp) (fun l hl=>?_)
 ·obtain⟨k1,k2⟩:=Vd he s hs
  refine⟨fun lv r=>by rw[k1];exact Sn,?_,fun n lv σ r q1 q2=>?_⟩
  ·exact Nat.eq_of_beq_eq_true (BM.1 g4 s hs)
  ·rw[show s.app (n+1)=_ from congrFun k2 n]at q1
   have:=E9 q1
   rw[q2]at this
   rw[←hbody]
   exact this
 ·have:=@Wg _ x.inst _ _ hl
  rw[this,e3]
theorem BS.mN {P:Program}{I:Inv}{x:BS}{n:Nat}(h:∀lv p,Vb _ (x.F n) lv=some p→∀xs1 pre ret l1 l2,GZ x.args lv=some (xs1,l1)→EO x.pre l1=some (pre,l2)→Q1 x.ret (x.inst.pack p)=some ret→∀xs,X4 xs1=some xs→BB P I x.f xs pre ret.res ret.post ret.new):x.c.ok P I n:=by
 intro lv p hp xs1 pre rk ret l1 l2 e1 e2 e3 e4 xs e5
 have:some x.ret=some rk:=e3
 cases this
 exact h lv p hp xs1 pre ret l1 l2 e1 e2 e4 xs e5
def CF (P:Program) (I:Inv):List BW→Prop
 | []=>True
 | c::l=>(∀n,c.ok P I n)∧CF P I l
def allEq (P:Program) (ds:(γ:Type)→Ds γ) (ti:Types) (cs:List BW):List BS→Prop
 | []=>True
 | x::l=>(P.funcs[x.f]?=some x.fn∧x.fits P=true∧x.uH ds ti cs)∧allEq P ds ti cs l
theorem KT {P:Program}{I:Inv}:∀{l:List BW},CF P I l→∀c∈l,∀n,c.ok P I n
 | c::l,h,d,hd=>by
  cases hd with
  | head=>exact h.1
  | tail _ hd=>exact KT h.2 d hd
 | [],_,_,hd=>by cases hd
theorem O8 {P:Program}{ds:(γ:Type)→Ds γ}{ti:Types}{cs:List BW}:∀{l:List BS},allEq P ds ti cs l→∀x∈l,P.funcs[x.f]?=some x.fn∧x.fits P=true∧x.uH ds ti cs
 | c::l,h,d,hd=>by
  cases hd with
  | head=>exact h.1
  | tail _ hd=>exact O8 h.2 d hd
 | [],_,_,hd=>by cases hd
theorem So {P:Program}{I:Inv}:∀{g:List BS},(∀x∈g,∀n,x.c.ok P I n)→CF P I (g.map BS.c)
 | [],_=>trivial
 | x::g,h=>⟨h x (List.mem_cons_self ..),So fun y hy=>h y (List.mem_cons_of_mem _ hy)⟩
theorem group {P:Program}{I:Inv}{ti:Types}(hti:BN P ti) (h1:Bu ti) (hm:P.follows .mixedOrders=true) {ds:(γ:Type)→Ds γ}(hd:∀γ,(ds γ).ok) {g:List BS}{cs:List BW}(hc:CF P I cs) (he:allEq P ds ti (g.map BS.c++cs) g):CF P I (g.map BS.c):=by
 have main:∀n,∀x∈g,x.c.ok P I n:=by
  intro n
  induction n using Nat.strongRecOn with
  | _ n ih=>
   have rec1:∀N,N<n→∀m,m≤N→∀c∈g.map BS.c++cs,c.ok P I m:=by
    intro N hN m hm c hcm
    rcases List.mem_append.1 hcm with h | h
    ·obtain⟨y,hy,rfl⟩:=List.mem_map.1 h
     exact ih m (Nat.lt_of_le_of_lt hm hN) y hy
    ·exact KT hc c h m
   intro x hx
   refine BS.mN fun lv p hp=>?_
   obtain⟨hf,hfit,heq⟩:=O8 he x hx
   have e0:=congrArg Prod.fst heq.2
   have e1:=congrArg Prod.snd heq.2
   simp only[]at e0 e1
   cases n with
   | zero=>rw[e0]at hp;exact absurd hp Sn
   | succ N=>
    rw[show x.F (N+1)=_ from congrFun e1 N]at hp
    exact BS.step hti h1 hm hd hf hfit heq.1 (rec1 N (Nat.lt_succ_self N)) (E9 hp)
 exact So fun x hx n=>main n x hx
theorem single {P:Program}{I:Inv}{ti:Types}(hti:BN P ti) (h1:Bu ti) (hm:P.follows .mixedOrders=true) {ds:(γ:Type)→Ds γ}(hd:∀γ,(ds γ).ok) {x:BS}{cs:List BW}(hc:CF P I cs) (hf:P.funcs[x.f]?=some x.fn) (hx:x.fits P=true) (he:x.rH ds ti cs) (n:Nat):x.c.ok P I n:=by
 refine BS.mN fun lv p hp=>?_
 rw[show x.F n=_ from congrFun he.2 n]at hp
 exact BS.step hti h1 hm hd hf hx he.1 (fun m _ c hcm=>KT hc c hcm m) (E9 hp)
structure Kn (P:Program) (I:Inv) where
 c:BW
 ok:∀n,c.ok P I n
def fU {P:Program}{I:Inv}:List (Kn P I)→List BW
 | []=>[]
 | x::l=>x.c::fU l
theorem dA {P:Program}{I:Inv}:∀l:List (Kn P I),CF P I (fU l)
 | []=>trivial
 | x::l=>⟨x.ok,dA l⟩
def KU:List BS→List BW
 | []=>[]
 | x::l=>x.c::KU l
theorem Ui:∀l:List BS,KU l=l.map BS.c
 | []=>rfl
 | x::l=>by rw[KU,Ui l];rfl
def X7:List BW→List BW→List BW
 | [],m=>m
 | x::l,m=>x::X7 l m
theorem Vf (m:List BW):∀l,X7 l m=l++m
 | []=>rfl
 | x::l=>by rw[X7,Vf m l];rfl
theorem ZZ {P:Program}{I:Inv}{ti:Types}(hti:BN P ti) (h1:Bu ti) (hm:P.follows .mixedOrders=true) {ds:(γ:Type)→Ds γ}(hd:∀γ,(ds γ).ok) {g:List BS}(l:List (Kn P I)) (he:allEq P ds ti (X7 (KU g) (fU l)) g):CF P I (KU g):=by
 rw[Ui]
 rw[Vf,Ui]at he
 exact group hti h1 hm hd (dA l) he
def X9 {P:Program}{I:Inv}{ti:Types}(hti:BN P ti) (h1:Bu ti) (hm:P.follows .mixedOrders=true) {ds:(γ:Type)→Ds γ}(hd:∀γ,(ds γ).ok) (x:BS) (l:List (Kn P I)) (hf:P.funcs[x.f]?=some x.fn) (hx:x.fits P=true) (h2:KR x.sites=KS (BS.go ds ti x (fU l)) x.sites) (h3:x.F=fun n=>M6 _ fun lv=>BS.go ds ti x (fU l) n 1 (x.st lv)):Kn P I:=
 ⟨x.c,single hti h1 hm hd (dA l) hf hx ⟨h2,h3⟩⟩
end
end Go.AM
set_option linter.unusedVariables false
noncomputable section
namespace Go.Proofs.YtjmofeakajdbiaaGreatDoor
open Go Go.AM
noncomputable def nR (γ:Type):Ds γ:=fun t x k=>match Nat.beq t 45 with
 | true=>Bd x fun a0 a1 a2 a3 a4 a5 a6 a7 a8 a9 a10 a11 a12 a13 a14 a15=>k (.agg [.int .u8 a0,.str a1,.list true 4 a2,.int .u8 a3,.str a4,.list true 3 a5,.list true 15 a6,.int .u8 a7,.int .i64 a8,.str a9,.str a10,.str a11,.list false 1 a12,.list true 8 a13,.int .i64 a14,.int .i64 a15])
 | false=>match Nat.beq t 74 with
 | true=>Bl x fun a0 a1 a2 a3=>k (.agg [.str a0,.int .u8 a1,.str a2,.list true 3 a3])
 | false=>match Nat.beq t 33 with
 | true=>CM x fun a0 a1 a2=>k (.agg [.int .u8 a0,.str a1,.list true 3 a2])
 | false=>match Nat.beq t 50 with
 | true=>Af x fun a0 a1 a2 a3 a4 a5 a6 a7 a8 a9 a10 a11 a12 a13 a14=>k (.agg [.int .u8 a0,.str a1,.str a2,.list false 1 a3,.int .u8 a4,.str a5,.list true 3 a6,.int .i64 a7,.str a8,.list false 1 a9,.list true 8 a10,.list true 15 a11,.list true 15 a12,.list true 3 a13,.int .i64 a14])
 | false=>match Nat.beq t 9 with
 | true=>Bc x fun a0=>k (.str a0)
 | false=>match Nat.beq t 39 with
 | true=>Ao x fun a0 a1 a2 a3 a4 a5 a6 a7=>k (.agg [.int .u8 a0,.int .i64 a1,.str a2,.str a3,.str a4,.list false 1 a5,.list true 8 a6,.int .i64 a7])
 | false=>match Nat.beq t 95 with
 | true=>Be x fun a0 a1 a2=>k (.agg [.str a0,.str a1,.list true 15 a2])
 | false=>match Nat.beq t 3 with
 | true=>Mv x fun a0=>k (.int .i64 a0)
 | false=>match Nat.beq t 43 with
 | true=>Bo x fun a0=>k (.list true 15 a0)
 | false=>k x
theorem YA (γ:Type):(nR γ).ok:=fun t x k r h=>by
 unfold nR at h
 split at h
 ·obtain⟨a0,a1,a2,a3,a4,a5,a6,a7,a8,a9,a10,a11,a12,a13,a14,a15,rfl,h⟩:=Mu h;exact h
 split at h
 ·obtain⟨a0,a1,a2,a3,rfl,h⟩:=IY h;exact h
 split at h
 ·obtain⟨a0,a1,a2,rfl,h⟩:=IZ h;exact h
 split at h
 ·obtain⟨a0,a1,a2,a3,a4,a5,a6,a7,a8,a9,a10,a11,a12,a13,a14,rfl,h⟩:=Bb h;exact h
 split at h
 ·obtain⟨a0,rfl,h⟩:=Eh h;exact h
 split at h
 ·obtain⟨a0,a1,a2,a3,a4,a5,a6,a7,rfl,h⟩:=Ei h;exact h
 split at h
 ·obtain⟨a0,a1,a2,rfl,h⟩:=GD h;exact h
 split at h
 ·obtain⟨a0,rfl,h⟩:=Mw h;exact h
 split at h
 ·obtain⟨a0,rfl,h⟩:=DY h;exact h
 exact h
abbrev Kz:=Kn Tryz.prog inv
noncomputable def sg:=@X9 Tryz.prog inv _ BU BK Ht _ YA
theorem gr {g:List BS}(l:List Kz) (he:allEq Tryz.prog nR Ap (X7 (KU g) (fU l)) g):CF Tryz.prog inv (KU g):=ZZ BU BK Ht YA l he
def YB (n:Nat) (z1:Int):Option (Bool):=
 (if (65:Int)<=z1 then (if z1<=(90:Int)then some true else some false)else some false)
noncomputable def nS:BS:=⟨122,Tryz.f122,[.y],[],⟨.one (.b),[],[]⟩,Bool,inferInstance,YB,[]⟩
noncomputable def iX:Kz:=sg nS [] Tryz.func122 (by kernel_rfl) (by kernel_rfl) (by kernel_rfl)
end Go.Proofs.YtjmofeakajdbiaaGreatDoor
end
