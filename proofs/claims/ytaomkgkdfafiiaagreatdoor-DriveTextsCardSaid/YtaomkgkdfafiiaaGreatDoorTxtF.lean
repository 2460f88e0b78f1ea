/- Part of a proof. No condition. (Part 6.) -/
import Derived.RecoverIn
import Derived.Carry
import Derived.ChangeSame
import Derived.ChangeOld
import Derived.ChangeCalls
import Derived.WideShapes
import Derived.Test.YtaomkgkdfafiiaaGreatDoorTxtE
set_option linter.unusedVariables false
set_option linter.unusedSimpArgs false
namespace Go.AM
open Go Go.RowKit
section
variable {γ:Type}{r:γ}
def QD:List KY→List AV→Option (List Lf)
 | [],[]=>some []
 | s::ss,c::cs=>(match dN s c with
  | some l=>(match QD ss cs with
   | some m=>some (l++m)
   | none=>none)
  | none=>none)
 | _,_=>none
def IG:List KY→List Lf→Option (List AV×List Lf)
 | [],r=>some ([],r)
 | s::ss,r=>(match VL s r with
  | some (c,r)=>(match IG ss r with
   | some (cs,r)=>some (c::cs,r)
   | none=>none)
  | none=>none)
theorem Ih:∀{s:List KY}{c:List AV}{l:List Lf},QD s c=some l→∀rest,IG s (l++rest)=some (c,rest)
 | [],[],l,h,rest=>by cases h;rfl
 | s::ss,c::cs,l,h,rest=>by
  unfold QD at h
  split at h
  ·rename_i a ha
   split at h
   ·rename_i b hb
    cases h
    unfold IG
    rw[List.append_assoc,Tt ha]
    simp only[]
    rw[Ih hb]
   ·cases h
  ·cases h
 | [],_::_,_,h,_=>by cases h
 | _::_,[],_,h,_=>by cases h
def I6:List (List Sk)→List AB→Option (List Lf)
 | [],[]=>some []
 | s::ss,.cells cs::os=>(match QB s cs with
  | some l=>(match I6 ss os with
   | some m=>some (l++m)
   | none=>none)
  | none=>none)
 | _,_=>none
def Fa:List (List Sk)→List Lf→Option (List AB×List Lf)
 | [],r=>some ([],r)
 | s::ss,r=>(match QC s r with
  | some (c,r)=>(match Fa ss r with
   | some (os,r)=>some (.cells c::os,r)
   | none=>none)
  | none=>none)
theorem Dh:∀{s:List (List Sk)}{c:List AB}{l:List Lf},I6 s c=some l→∀rest,Fa s (l++rest)=some (c,rest)
 | [],[],l,h,rest=>by cases h;rfl
 | s::ss,.cells cs::os,l,h,rest=>by
  unfold I6 at h
  split at h
  ·rename_i a ha
   split at h
   ·rename_i b hb
    cases h
    unfold Fa
    rw[List.append_assoc,IE ha]
    simp only[]
    rw[Dh hb]
   ·cases h
  ·cases h
 | [],_::_,_,h,_=>by cases h
 | s::ss,o::os,l,h,rest=>by
  cases o with
  | cells cs=>
   unfold I6 at h
   split at h
   ·rename_i a ha
    split at h
    ·rename_i b hb
     cases h
     unfold Fa
     rw[List.append_assoc,IE ha]
     simp only[]
     rw[Dh hb]
    ·cases h
   ·cases h
  | _=>cases h
 | _::_,[],_,h,_=>by cases h
def Fk {α β:Type}:List α→List β→List (α×β)
 | a::l,b::m=>(a,b)::Fk l m
 | _,_=>[]
inductive Ty where
 | I
 | B
 | S
 | L
def pA:Sk→List Ty→List Ty
 | .int _,l=>.I::l
 | .bool,l=>.B::l
 | .str,l=>.S::l
 | .list _ _,l=>.L::l
 | _,l=>l
def dP:List Sk→List Ty→List Ty
 | [],l=>l
 | s::ss,l=>pA s (dP ss l)
def Tu:List KY→List Ty→List Ty
 | [],l=>l
 | s::ss,l=>(match s with
  | .one c=>pA c (Tu ss l)
  | .agg cs=>dP cs (Tu ss l)
  | .mix cs=>dP cs (Tu ss l))
def Xd:List (List Sk)→List Ty
 | []=>[]
 | s::ss=>dP s (Xd ss)
def Tv (ρ:Type):List Ty→Type
 | []=>Option ρ
 | .I::l=>Int→Tv ρ l
 | .B::l=>Bool→Tv ρ l
 | .S::l=>ByteArray→Tv ρ l
 | .L::l=>List D→Tv ρ l
def QE:(l:List Ty)→Tv γ l→List Lf→Option γ
 | [],x,[]=>x
 | .I::l,f,.I z::r=>QE l (f z) r
 | .B::l,f,.B z::r=>QE l (f z) r
 | .S::l,f,.S z::r=>QE l (f z) r
 | .L::l,f,.L z::r=>QE l (f z) r
 | _,_,_=>none
def MT:(l:List Ty)→(List Lf→Option γ)→Tv γ l
 | [],f=>f []
 | .I::l,f=>fun z=>MT l fun r=>f (.I z::r)
 | .B::l,f=>fun z=>MT l fun r=>f (.B z::r)
 | .S::l,f=>fun z=>MT l fun r=>f (.S z::r)
 | .L::l,f=>fun z=>MT l fun r=>f (.L z::r)
theorem F3:∀{l:List Ty}{f:List Lf→Option γ}{v:List Lf},QE l (MT l f) v=some r→f v=some r
 | [],f,[],h=>h
 | .I::l,f,.I z::v,h=>F3 (l:=l) (f:=fun r=>f (.I z::r)) (v:=v) h
 | .B::l,f,.B z::v,h=>F3 (l:=l) (f:=fun r=>f (.B z::r)) (v:=v) h
 | .S::l,f,.S z::v,h=>F3 (l:=l) (f:=fun r=>f (.S z::r)) (v:=v) h
 | .L::l,f,.L z::v,h=>F3 (l:=l) (f:=fun r=>f (.L z::r)) (v:=v) h
 | [],_,_::_,h=>by cases h
 | .I::_,_,[],h=>by cases h
 | .B::_,_,[],h=>by cases h
 | .S::_,_,[],h=>by cases h
 | .L::_,_,[],h=>by cases h
 | .I::_,_,.B _::_,h=>by cases h
 | .I::_,_,.S _::_,h=>by cases h
 | .I::_,_,.L _::_,h=>by cases h
 | .B::_,_,.I _::_,h=>by cases h
 | .B::_,_,.S _::_,h=>by cases h
 | .B::_,_,.L _::_,h=>by cases h
 | .S::_,_,.I _::_,h=>by cases h
 | .S::_,_,.B _::_,h=>by cases h
 | .S::_,_,.L _::_,h=>by cases h
 | .L::_,_,.I _::_,h=>by cases h
 | .L::_,_,.B _::_,h=>by cases h
 | .L::_,_,.S _::_,h=>by cases h
class Res (ρ:Type) where
  pack:ρ→List Lf
  unp:List Lf→Option (ρ×List Lf)
  law:∀{l p q},unp l=some (p,q)→l=pack p++q
instance:Res Unit:=⟨fun _=>[],fun l=>some ((),l),fun h=>by cases h;rfl⟩
instance:Res Int:=⟨fun z=>[.I z],fun l=>match l with | .I z::q=>some (z,q) | _=>none,fun h=>by split at h<;>cases h;rfl⟩
instance:Res Bool:=⟨fun z=>[.B z],fun l=>match l with | .B z::q=>some (z,q) | _=>none,fun h=>by split at h<;>cases h;rfl⟩
instance:Res ByteArray:=⟨fun z=>[.S z],fun l=>match l with | .S z::q=>some (z,q) | _=>none,fun h=>by split at h<;>cases h;rfl⟩
instance:Res (List D):=⟨fun z=>[.L z],fun l=>match l with | .L z::q=>some (z,q) | _=>none,fun h=>by split at h<;>cases h;rfl⟩
instance {α β:Type} [Res α] [Res β]:Res (α×β):=⟨fun p=>Res.pack p.1++Res.pack p.2,fun l=>match (Res.unp l:Option (α×List Lf))with
  | some (a,l)=>(match (Res.unp l:Option (β×List Lf))with
    | some (b,l)=>some ((a,b),l)
    | none=>none)
  | none=>none,fun h=>by
    split at h
    · rename_i ha
      split at h
      · rename_i hb
        cases h
        rw[Res.law ha,Res.law hb,List.append_assoc]
      · cases h
    · cases h⟩
class Rez (ρ:Type) where
 elim:{γ:Type}→ρ→(Nat→List Lf→Option γ)→Option γ
 alt:ρ→Nat
 pack:ρ→List Lf
 law:∀{γ:Type} {p:ρ} {k:Nat→List Lf→Option γ},elim p k=k (alt p) (pack p)
instance rezOf {ρ:Type} [Res ρ]:Rez ρ:=⟨fun p k=>k 0 (Res.pack p),fun _=>0,Res.pack,rfl⟩
instance {α β:Type} [Res α] [Rez β]:Rez (α ⊕ β):=⟨fun p k=>match p with
  | .inl a=>k 0 (Res.pack a)
  | .inr b=>Rez.elim b fun i l=>k (i+1) l,fun p=>match p with
  | .inl _=>0
  | .inr b=>Rez.alt b+1,fun p=>match p with
  | .inl a=>Res.pack a
  | .inr b=>Rez.pack b,fun {γ p k}=>by
    cases p with
    | inl a=>rfl
    | inr b=>exact Rez.law⟩
def Xe (ρ:Type) [Res ρ] (l:List Lf):Option ρ:=match (Res.unp l:Option (ρ×List Lf))with
 | some (p,[])=>some p
 | _=>none
theorem Ld {ρ:Type} [Res ρ] {l:List Lf}{p:ρ}(h:Xe ρ l=some p):l=Res.pack p:=by
 unfold Xe at h
 split at h
 ·rename_i hu
  cases h
  rw[Res.law hu,List.append_nil]
 ·cases h
structure Site (γ:Type) where
 p:Nat
 ks:List Nat
 is:List Id
 nx:Nat
 sk:List KY
 hk:List (List Sk)
 app:Nat→Tv γ (Tu sk (Xd hk))
def Site.st (s:Site γ) (lv:List Lf):Option St:=
 match IG s.sk lv with
 | some (vs,lv)=>(match Fa s.hk lv with
  | some (os,_)=>some ⟨Fk s.ks vs,Fk s.is os,s.nx⟩
  | none=>none)
 | none=>none
def VM (ks:List Nat) (is:List Id) (n:Nat) (σ:St):Option (List AV×List AB):=
 match C6 (AK σ.heap) is with
 | none=>none
 | some os=>Aj (BP (cM n) (ks.map (AH σ.slots)))<| Aj (BP (fun x:Id×AB=>match J3 n x.1 with | true=>Yf n x.2 | false=>false) (Fk is os)) (some (ks.map (AH σ.slots),os))
theorem JX {l:List (Id×AB)}:∀{is:List Id}{os:List AB},C6 (AK l) is=some os→L8 l is=some (Fk is os)
 | [],os,h=>by cases h;rfl
 | i::is,os,h=>by
  unfold C6 at h
  split at h
  ·rename_i o ho
   split at h
   ·rename_i r' hr
    cases h
    unfold L8
    rw[ho,JX hr]
    rfl
   ·cases h
  ·cases h
theorem Lg (l:List (Nat×AV)):∀ks:List Nat,Hg l ks=Fk ks (ks.map (AH l))
 | []=>rfl
 | k::ks=>by show (k,AH l k)::Hg l ks=(k,AH l k)::Fk ks (ks.map (AH l));rw[Lg l ks]
theorem WJ {n:Nat}(l:List (Nat×AV)):∀ks:List Nat,BP (cM n) (ks.map (AH l))=true→BP (fun x:Nat×AV=>cM n x.2) (Fk ks (ks.map (AH l)))=true
 | [],_=>rfl
 | k::ks,h=>by
  unfold List.map BP at h
  split at h
  ·rename_i hk
   show (match cM n (AH l k)with | true=>_ | false=>_)=true
   rw[hk]
   exact WJ l ks h
  ·cases h
theorem Xf {ks:List Nat}{is:List Id}{n:Nat}{σ:St}{vs:List AV}{os:List AB}(h:VM ks is n σ=some (vs,os)):∃σ',A8 σ σ'∧σ'=⟨Fk ks vs,Fk is os,n⟩:=by
 unfold VM at h
 split at h
 ·cases h
 ·rename_i os' ho
  obtain⟨h1,h⟩:=AD h
  obtain⟨h2,h⟩:=AD h
  cases h
  refine Gd (K:=fun σ'=>σ'=_) (ks:=ks) (is:=is) (n:=n) ?_
  unfold Fj
  rw[JX ho,Lg]
  exact AA.2 ⟨WJ _ _ h1,AA.2 ⟨h2,rfl⟩⟩
def Site.run (s:Site γ) (n:Nat) (σ:St):Option (Option γ):=
 match VM s.ks s.is s.nx σ with
 | some (vs,os)=>(match QD s.sk vs with
  | some a=>(match I6 s.hk os with
   | some b=>some (QE _ (s.app n) (a++b))
   | none=>none)
  | none=>none)
 | none=>none
theorem Site.Vl {s:Site γ}{n:Nat}{σ:St}(h:s.run n σ=some (some r)):∃lv σ',QE _ (s.app n) lv=some r∧s.st lv=some σ'∧A8 σ σ':=by
 unfold Site.run at h
 split at h
 ·rename_i vs os hk
  split at h
  ·rename_i a ha
   split at h
   ·rename_i b hb
    obtain⟨σ',hw,rfl⟩:=Xf hk
    refine⟨_,_,Option.some.inj h,?_,hw⟩
    unfold Site.st
    rw[Ih ha]
    simp only[]
    rw[←List.append_nil b,Dh hb]
   ·cases h
  ·cases h
 ·cases h
def QF:List (Site γ)→Nat→Nat→St→Option (Option γ)
 | [],_,_,_=>none
 | s::l,n,p,σ=>(match Nat.beq s.p p with
  | true=>(match s.run n σ with
   | some x=>some x
   | none=>QF l n p σ)
  | false=>QF l n p σ)
theorem Tw:∀{l:List (Site γ)}{n p:Nat}{σ:St},QF l n p σ=some (some r)→∃s∈l,s.p=p∧s.run n σ=some (some r)
 | s::l,n,p,σ,h=>by
  have rest:QF l n p σ=some (some r)→∃s'∈s::l,s'.p=p∧s'.run n σ=some (some r):=fun h=>by
   obtain⟨s',h1,h2⟩:=Tw h
   exact⟨s',List.mem_cons_of_mem _ h1,h2⟩
  unfold QF at h
  split at h
  ·rename_i hb
   split at h
   ·rename_i x hx
    cases h
    exact⟨s,List.mem_cons_self ..,Nat.eq_of_beq_eq_true hb,hx⟩
   ·exact rest h
  ·exact rest h
 | [],_,_,_,h=>by cases h
inductive pN where
 | one (s:KY)
 | tup (l:List KY)
structure Ka where
 res:pN
 post:List (List Sk)
 new:List (List Sk)
def dQ (s:Ka) (x:Jg):Option (List Lf):=
 match s.res,x.res with
 | .one a,.v y=>(match dN a (.v y)with
  | some l=>(match I6 s.post x.post with
   | some m=>(match I6 s.new x.new with
    | some n=>some (l++(m++n))
    | none=>none)
   | none=>none)
  | none=>none)
 | .tup xs1,.t ys=>(match QD xs1 (ys.map AV.v)with
  | some l=>(match I6 s.post x.post with
   | some m=>(match I6 s.new x.new with
    | some n=>some (l++(m++n))
    | none=>none)
   | none=>none)
  | none=>none)
 | _,_=>none
def VN:List AV→Option (List V1)
 | []=>some []
 | .v x::l=>(match VN l with
  | some m=>some (x::m)
  | none=>none)
 | _::_=>none
theorem Kb:∀l:List V1,VN (l.map AV.v)=some l
 | []=>rfl
 | x::l=>by show (match VN (l.map AV.v)with | some m=>some (x::m) | none=>none)=_;rw[Kb l]
def Tx (s:Ka) (lv:List Lf):Option Jg:=
 match s.res with
 | .one a=>(match VL a lv with
  | some (y,lv)=>(match Fa s.post lv with
   | some (os,lv)=>(match Fa s.new lv with
    | some (ns,_)=>some ⟨y,os,ns⟩
    | none=>none)
   | none=>none)
  | none=>none)
 | .tup xs1=>(match IG xs1 lv with
  | some (ys,lv)=>(match VN ys with
   | some xs=>(match Fa s.post lv with
    | some (os,lv)=>(match Fa s.new lv with
     | some (ns,_)=>some ⟨.t xs,os,ns⟩
     | none=>none)
    | none=>none)
   | none=>none)
  | none=>none)
theorem Zk:∀{s:Ka}{x:Jg}{l:List Lf},dQ s x=some l→Tx s l=some x
 | ⟨.one a,ps,qs⟩,⟨.v y,post,new⟩,l,h=>by
  unfold dQ at h
  simp only[]at h
  split at h
  ·rename_i l1 h1
   split at h
   ·rename_i l2 h2
    split at h
    ·rename_i l3 h3
     cases h
     unfold Tx
     simp only[]
     rw[Tt h1]
     simp only[]
     rw[Dh h2]
     simp only[]
     rw[←List.append_nil l3,Dh h3]
    ·cases h
   ·cases h
  ·cases h
 | ⟨.tup xs1,ps,qs⟩,⟨.t ys,post,new⟩,l,h=>by
  unfold dQ at h
  simp only[]at h
  split at h
  ·rename_i l1 h1
   split at h
   ·rename_i l2 h2
    split at h
    ·rename_i l3 h3
     cases h
     unfold Tx
     simp only[]
     rw[Ih h1]
     simp only[]
     rw[Kb]
     simp only[]
     rw[Dh h2]
     simp only[]
     rw[←List.append_nil l3,Dh h3]
    ·cases h
   ·cases h
  ·cases h
 | ⟨.one _,_,_⟩,⟨.t _,_,_⟩,_,h=>by cases h
 | ⟨.tup _,_,_⟩,⟨.v _,_,_⟩,_,h=>by cases h
 | ⟨.one _,_,_⟩,⟨.u,_,_⟩,_,h=>by cases h
 | ⟨.tup _,_,_⟩,⟨.u,_,_⟩,_,h=>by cases h
def jG:List Ka→Nat→Option Ka
 | [],_=>none
 | s::_,0=>some s
 | _::l,n+1=>jG l n
structure F5 where
 f:FuncId
 args:List KY
 pre:List (List Sk)
 ret:List Ka
 ρ:Type
 inst:Rez ρ
 F:Nat→Tv ρ (Tu args (Xd pre))
def F5.ok (P:Program) (I:Inv) (c:F5) (n:Nat):Prop:=∀lv p,QE _ (c.F n) lv=some p→∀xs1 pre rk ret l1 l2,IG c.args lv=some (xs1,l1)→Fa c.pre l1=some (pre,l2)→jG c.ret (c.inst.alt p)=some rk→Tx rk (c.inst.pack p)=some ret→∀xs,VN xs1=some xs→Bf P I c.f xs pre ret.res ret.post ret.new
def Lh:List F5→Nat→Cl γ
 | [],_,_,_,_,_=>none
 | c::l,n,f,args,pre,k=>(match Nat.beq c.f f with
  | true=>(match QD c.args (args.map AV.v)with
   | some a=>(match I6 c.pre pre with
    | some b=>(match QE _ (c.F n) (a++b)with
     | some p=>c.inst.elim p fun i l=>(match jG c.ret i with
      | some rk=>(match Tx rk l with
       | some ret=>k ret
       | none=>none)
      | none=>none)
     | none=>none)
    | none=>Lh l n f args pre k)
   | none=>Lh l n f args pre k)
  | false=>Lh l n f args pre k)
theorem QG {P:Program}{I:Inv}{n:Nat}:∀{l:List F5},(∀c∈l,c.ok P I n)→(Lh l n:Cl γ).ok P I
 | [],_=>fun _ _ _ _ _ h=>by cases h
 | c::l,hc=>fun f args pre k r h=>by
  have rest:=QG (P:=P) (I:=I) (n:=n) (l:=l) fun c' hc'=>hc c' (List.mem_cons_of_mem _ hc')
  unfold Lh at h
  split at h
  ·rename_i hf
   split at h
   ·rename_i a ha
    split at h
    ·rename_i b hb
     split at h
     ·rename_i p hp
      rw[c.inst.law]at h
      split at h
      ·rename_i rk hrk
       split at h
       ·rename_i ret hr
        have e1:=Ih ha b
        have e2:=Dh hb []
        rw[List.append_nil]at e2
        have:=hc c (List.mem_cons_self ..) _ _ hp _ _ _ _ _ _ e1 e2 hrk hr args (Kb args)
        rw[Nat.eq_of_beq_eq_true hf]at this
        exact⟨_,_,_,this,h⟩
       ·cases h
      ·cases h
     ·cases h
    ·exact rest f args pre k r h
   ·exact rest f args pre k r h
  ·exact rest f args pre k r h
def Tz (ti:Types) (rs:List ResultVar) (np:Nat) (fin:Jg→Option γ):Kt γ
 | .exit _,_=>none
 | .normal,σ=>WH ti rs np σ fin
 | .ret,σ=>WH ti rs np σ fin
def T1 (ds:Ds γ) (cs:List F5) (ss:List (Site γ)) (n:Nat):Env γ:=⟨ds,Lh cs n,QF ss n⟩
def Site.ok (ds:Ds γ) (cs:List F5) (ss:List (Site γ)) (ti:Types) (nt:Nat) (body:Code) (K:Kt γ) (s:Site γ):Prop:=
 (∀lv r,QE _ (s.app 0) lv≠some r)∧A6 (KW 60 s.p)=s.p∧∀n lv σ r,QE _ (s.app (n+1)) lv=some r→s.st lv=some σ→JU (T1 ds cs ss n) ti nt body K (KW 60 s.p) σ=some r
def Kc (s:Ka) (out:List Lf→Option γ) (x:Jg):Option γ:=
 match dQ s x with
 | some l=>out l
 | none=>none
theorem Bk.bI {P:Program}{I:Inv}{f:FuncId}{args:List V1}{pre:List AB}{Q Q':AV→List AB→List AB→Prop}(hq:∀a b c,Q a b c→Q' a b c) (h:Bk P I f args pre Q):Bk P I f args pre Q':=
 ⟨h.1,fun w X g vals k1 k2 k3 k4 k5 k6=>Calls.mono (h.2 w X g vals k1 k2 k3 k4 k5 k6) fun e w' ⟨v,g',res,post,new,q,he,hp⟩=>⟨v,g',res,post,new,hq _ _ _ q,he,hp⟩⟩
theorem jH {P:Program}{I:Inv}{ti:Types}(hti:Ao P ti) (h1:BB ti) (hm:P.follows .mixedOrders=true) {f:FuncId}{fn:Func}{c:Code}(hf:P.funcs[f]?=some fn) (hb:fn.body=some c)
  (hname:(fn.name== "runtime.NumGoroutine")=false) {args:List V1} {pre post new:List AB} {res:AV} {nt:Nat} (hnt:fn.ntmps=nt) (hargs:Nat.ble args.length nt=true) {rs:List ResultVar} (hrs:fn.results.toList=rs)
  {ds:Ds γ} (hd:ds.ok) {cs:List F5} {ss:List (Site γ)} {N np:Nat} {rk:Ka} {out:List Lf→Option γ} (hc:∀m,m≤N→∀c∈cs,c.ok P I m) (hs:∀s∈ss,s.ok ds cs ss ti nt c (Tz ti rs np (Kc rk out)))
  (hx:JU (T1 ds cs ss N) ti nt c (Tz ti rs np (Kc rk out)) [] ⟨slotsOf args 0,A9 pre 0,0⟩=some r) (ho:∀l,out l=some r→Tx rk l=some ⟨res,post,new⟩):Bf P I f args pre res post new:=by
 have main:Bk P I f args pre fun a b c=>Kc rk out ⟨a,b,c⟩=some r:=by
  refine Bk.of hti h1 hm hf hb hname hnt hargs hrs fun M hP hI=>?_
  have:=(F2 (M:=M) (N:=N) (E:=T1 ds cs ss) (Kf:=Tz ti rs np (Kc rk out)) (body:=c) (ti:=ti) (nt:=nt) (r:=r) (fun _ _=>hd) (fun m hm=>by rw[hP,hI];exact QG (hc m hm)) (fun m hm p σ e=>?_) c [] N (fun _=>Tz ti rs np (Kc rk out))
   (fun e σ=>match e with
   | .exit _=>False
   | .normal=>∃res post new,Kc rk out ⟨res,post,new⟩=some r∧DZ ti rs σ res post new
   | .ret=>∃res post new,Kc rk out ⟨res,post,new⟩=some r∧DZ ti rs σ res post new) (Nat.le_refl _) (fun _ _=>rfl) (fun m e σ _ h=>?_)).2 _ hx
  ·exact this
  ·unfold Ob T1 at e
   simp only[]at e
   split at e
   ·rename_i x hx
    subst e
    obtain⟨s,hmem,rfl,e⟩:=Tw hx
    obtain⟨lv,σ',g1,g2,g3⟩:=Site.Vl e
    obtain⟨k1,k2,k3⟩:=hs s hmem
    cases m with
    | zero=>exact absurd g1 (k1 _ _)
    | succ m=>exact⟨m,σ',_,Nat.lt_succ_self m,g3,k2,k3 m lv σ' r g1 g2⟩
   ·cases e
  ·cases e with
   | exit id=>cases h
   | normal=>exact Ts h
   | ret=>exact Ts h
 refine main.bI fun a b c h=>?_
 unfold Kc at h
 split at h
 ·rename_i l hl
  have h1:=Zk hl
  rw[ho l h]at h1
  cases h1
  exact⟨rfl,rfl,rfl⟩
 ·cases h
def QH (f:Func):Code:=match f.body with
 | some c=>c
 | none=>.skip
structure Mx where
 f:FuncId
 fn:Func
 args:List KY
 pre:List (List Sk)
 ret:Ka
 ρ:Type
 inst:Res ρ
 F:Nat→Tv ρ (Tu args (Xd pre))
 sites:List (Site ρ)
def Mx.c (x:Mx):F5:=⟨x.f,x.args,x.pre,[x.ret],x.ρ,@rezOf x.ρ x.inst,x.F⟩
def Mx.go (ds:(γ:Type)→Ds γ) (ti:Types) (x:Mx) (cs:List F5) (n p:Nat) (σ:Option St):Option x.ρ:=
 match σ with
 | some σ=>JU (T1 (ds _) cs x.sites n) ti x.fn.ntmps (QH x.fn) (Tz ti x.fn.results.toList x.pre.length (Kc x.ret (@Xe x.ρ x.inst))) (KW 60 p) σ
 | none=>none
def Mx.st (x:Mx) (lv:List Lf):Option St:=
 match IG x.args lv with
 | some (xs1,l)=>(match VN xs1 with
  | some xs=>(match Fa x.pre l with
   | some (os,_)=>some ⟨slotsOf xs 0,A9 os 0,0⟩
   | none=>none)
  | none=>none)
 | none=>none
def I7:(l:List Ty)→Tv γ l
 | []=>none
 | .I::l=>fun _=>I7 l
 | .B::l=>fun _=>I7 l
 | .S::l=>fun _=>I7 l
 | .L::l=>fun _=>I7 l
theorem T2:∀{l:List Ty}{v:List Lf},QE l (I7 (γ:=γ) l) v≠some r
 | l,v,h=>by
  have:I7 (γ:=γ) l=MT l fun _=>none:=by
   clear h
   induction l with
   | nil=>rfl
   | cons t l ih=>cases t<;>(funext z;exact ih)
  rw[this]at h
  cases F3 h
def lS (γ:Type):List (Site γ)→Type
 | []=>Unit
 | s::l=>(Tv γ (Tu s.sk (Xd s.hk))×(Nat→Tv γ (Tu s.sk (Xd s.hk))))×lS γ l
def Rt:(l:List (Site γ))→lS γ l
 | []=>()
 | s::l=>((s.app 0,fun n=>s.app (n+1)),Rt l)
def Ru (go:Nat→Nat→Option St→Option γ):(l:List (Site γ))→lS γ l
 | []=>()
 | s::l=>((I7 _,fun n=>MT _ fun lv=>go n s.p (s.st lv)),Ru go l)
def Mx.mS (ds:(γ:Type)→Ds γ) (ti:Types) (x:Mx) (cs:List F5):Prop:=
 Rt x.sites=Ru (Mx.go ds ti x cs) x.sites∧x.F=fun n=>MT _ fun lv=>Mx.go ds ti x cs n 1 (x.st lv)
theorem WK {go:Nat→Nat→Option St→Option γ}:∀{l:List (Site γ)},Rt l=Ru go l→∀s∈l,(s.app 0=I7 _∧(fun n=>s.app (n+1))=fun n=>MT _ fun lv=>go n s.p (s.st lv))
 | s::l,h,t,ht=>by
  have h1:=congrArg (fun x:lS γ (s::l)=>x.1) h
  have h2:=congrArg (fun x:lS γ (s::l)=>x.2) h
  cases ht with
  | head=>exact⟨congrArg Prod.fst h1,congrArg Prod.snd h1⟩
  | tail _ ht=>exact WK h2 t ht
 | [],_,_,ht=>by cases ht
def Mx.fits (P:Program) (x:Mx):Bool:=
 (match x.fn.body with
 | some _=>true
 | none=>false)&&!(x.fn.name== "runtime.NumGoroutine")&&Nat.ble x.args.length x.fn.ntmps&&BP (fun s:Site x.ρ=>Nat.beq (A6 (KW 60 s.p)) s.p) x.sites
theorem Rv:∀{l:List AV}{xs:List V1},VN l=some xs→xs.length=l.length
 | [],xs,h=>by cases h;rfl
 | .v x::l,xs,h=>by
  unfold VN at h
  split at h
  ·rename_i m hm;cases h;simp[Rv hm]
  ·cases h
theorem QI:∀{s:List KY}{l:List Lf}{xs1:List AV}{q:List Lf},IG s l=some (xs1,q)→xs1.length=s.length
 | [],l,xs1,q,h=>by cases h;rfl
 | s::ss,l,xs1,q,h=>by
  unfold IG at h
  split at h
  ·split at h
   ·rename_i h2;cases h;simp[QI h2]
   ·cases h
  ·cases h
theorem QJ:∀{s:List (List Sk)}{l:List Lf}{xs1:List AB}{q:List Lf},Fa s l=some (xs1,q)→xs1.length=s.length
 | [],l,xs1,q,h=>by cases h;rfl
 | s::ss,l,xs1,q,h=>by
  unfold Fa at h
  split at h
  ·split at h
   ·rename_i h2;cases h;simp[QJ h2]
   ·cases h
  ·cases h
theorem Mx.step {P:Program}{I:Inv}{ti:Types}(hti:Ao P ti) (h1:BB ti) (hm:P.follows .mixedOrders=true) {ds:(γ:Type)→Ds γ}(hd:∀γ,(ds γ).ok) {x:Mx}{cs:List F5}(hf:P.funcs[x.f]?=some x.fn) (hx:x.fits P=true) (he:Rt x.sites=Ru (Mx.go ds ti x cs) x.sites) {N:Nat}(hc:∀m,m≤N→∀c∈cs,c.ok P I m) {lv:List Lf}{p:x.ρ}(hp:Mx.go ds ti x cs N 1 (x.st lv)=some p):
  ∀xs1 pre ret l1 l2,IG x.args lv=some (xs1,l1)→Fa x.pre l1=some (pre,l2)→Tx x.ret (x.inst.pack p)=some ret→∀xs,VN xs1=some xs→Bf P I x.f xs pre ret.res ret.post ret.new:=by
 intro xs1 pre ret l1 l2 e1 e2 e3 xs e4
 unfold Mx.fits at hx
 simp only[Bool.and_eq_true,Bool.not_eq_true']at hx
 obtain⟨⟨⟨g1,g2⟩,g3⟩,g4⟩:=hx
 obtain⟨c,hb⟩:∃c,x.fn.body=some c:=by
  cases hb:x.fn.body with
  | none=>rw[hb]at g1;cases g1
  | some c=>exact⟨c,rfl⟩
 have hbody:QH x.fn=c:=by unfold QH;rw[hb]
 have hst:x.st lv=some ⟨slotsOf xs 0,A9 pre 0,0⟩:=by unfold Mx.st;rw[e1];simp only[e4,e2]
 rw[hst]at hp
 unfold Mx.go at hp
 simp only[]at hp
 have hpre:x.pre.length=pre.length:=(QJ e2).symm
 refine jH (γ:=x.ρ) (r:=p) (N:=N) (np:=x.pre.length) (rk:=x.ret) (out:=@Xe x.ρ x.inst) (ss:=x.sites) hti h1 hm hf hb g2 rfl (by rw[Rv e4,QI e1];exact g3) rfl (hd _) hc (fun s hs=>?_) (by rw[←hbody];exact hp) (fun l hl=>?_)
 ·obtain⟨k1,k2⟩:=WK he s hs
  refine⟨fun lv r=>by rw[k1];exact T2,?_,fun n lv σ r q1 q2=>?_⟩
  ·exact Nat.eq_of_beq_eq_true (Az.1 g4 s hs)
  ·rw[show s.app (n+1)=_ from congrFun k2 n]at q1
   have:=F3 q1
   rw[q2]at this
   rw[←hbody]
   exact this
 ·have:=@Ld _ x.inst _ _ hl
  rw[this,e3]
theorem Mx.mT {P:Program}{I:Inv}{x:Mx}{n:Nat}(h:∀lv p,QE _ (x.F n) lv=some p→∀xs1 pre ret l1 l2,IG x.args lv=some (xs1,l1)→Fa x.pre l1=some (pre,l2)→Tx x.ret (x.inst.pack p)=some ret→∀xs,VN xs1=some xs→Bf P I x.f xs pre ret.res ret.post ret.new):x.c.ok P I n:=by
 intro lv p hp xs1 pre rk ret l1 l2 e1 e2 e3 e4 xs e5
 have:some x.ret=some rk:=e3
 cases this
 exact h lv p hp xs1 pre ret l1 l2 e1 e2 e4 xs e5
def Zl (P:Program) (I:Inv):List F5→Prop
 | []=>True
 | c::l=>(∀n,c.ok P I n)∧Zl P I l
theorem QK {P:Program}{I:Inv}:∀{l:List F5},Zl P I l→∀c∈l,∀n,c.ok P I n
 | c::l,h,d,hd=>by
  cases hd with
  | head=>exact h.1
  | tail _ hd=>exact QK h.2 d hd
 | [],_,_,hd=>by cases hd
theorem single {P:Program}{I:Inv}{ti:Types}(hti:Ao P ti) (h1:BB ti) (hm:P.follows .mixedOrders=true) {ds:(γ:Type)→Ds γ}(hd:∀γ,(ds γ).ok) {x:Mx}{cs:List F5}(hc:Zl P I cs) (hf:P.funcs[x.f]?=some x.fn) (hx:x.fits P=true) (he:x.mS ds ti cs) (n:Nat):x.c.ok P I n:=by
 refine Mx.mT fun lv p hp=>?_
 rw[show x.F n=_ from congrFun he.2 n]at hp
 exact Mx.step hti h1 hm hd hf hx he.1 (fun m _ c hcm=>QK hc c hcm m) (F3 hp)
end
end Go.AM
namespace Go.AM
open Go Go.RowKit
noncomputable section
variable {γ:Type}{r:γ}
inductive Sj where
 | int (k:IntKind)
 | bool
 | str
 | list (ag:Bool) (sz:Nat)
 | tl (ag:Bool) (sz:Nat)
 | ci (k:IntKind) (z:Int)
 | cb (b:Bool)
 | cs (s:ByteArray)
 | el (ag:Bool) (sz:Nat)
 | nils (ag:Bool) (sz:Nat)
 | nilp
 | nilm
 | nilf
 | un
 | ptr (i:Id) (o:Nat)
 | ow (i:Id)
 | fn (f:Nat) (cap:List Id)
 | bm (f:Nat) (i:Id)
inductive JY where
 | one (s:Sj)
 | agg (l:List Sj)
 | mix (l:List Sj)
inductive VO where
 | c (l:List Sj)
 | t (k:Kd) (ag:Bool) (sz:Nat)
 | gone
abbrev Sj.z:Sj:=.int .i64
abbrev Sj.y:Sj:=.int .u8
abbrev Sj.k (z:Int):Sj:=.ci .i64 z
abbrev Sj.q (n:Nat):Sj:=.list true n
abbrev Sj.f (n:Nat):Sj:=.list false n
abbrev JY.z:JY:=.one .z
abbrev JY.y:JY:=.one .y
abbrev JY.b:JY:=.one .bool
abbrev JY.s:JY:=.one .str
abbrev JY.k (z:Int):JY:=.one (.k z)
abbrev JY.q (n:Nat):JY:=.one (.q n)
abbrev JY.f (n:Nat):JY:=.one (.f n)
abbrev JY.p (i:Id) (n:Nat):JY:=.one (.ptr i n)
abbrev JY.w (i:Id):JY:=.one (.ow i)
abbrev VO.l (ag:Bool) (sz:Nat):VO:=.t .row ag sz
def lU:Kd→Kd→Bool
 | .row,.row=>true
 | .flat,.flat=>true
 | .box,.box=>true
 | .map,.map=>true
 | .fmap a,.fmap b=>a==b
 | _,_=>false
theorem dR {a b:Kd}(h:lU a b=true):a=b:=by
 cases a<;>cases b<;>first | rfl | (cases h;done) | (rw[eq_of_beq (show (_==_)=true from h)])
def Zm:Sj→CV→Option (List Lf)
 | .int k,.d (.int k' z)=>Cf (dM k k') (some [.I z])
 | .bool,.d (.bool b)=>some [.B b]
 | .str,.d (.str s)=>some [.S s]
 | .list ag sz,.d (.list ag' sz' l)=>Cf (ag==ag') (Cf (Nat.beq sz sz') (some [.L l]))
 | .tl ag sz,.tl ag' sz' l=>Cf (ag==ag') (Cf (Nat.beq sz sz') (some [.L l]))
 | .ci k z,.d (.int k' z')=>Cf (dM k k') (Cf (nC z z') (some []))
 | .cb b,.d (.bool b')=>Cf (b==b') (some [])
 | .cs s,.d (.str s')=>Cf (kH s.data.toList s'.data.toList) (some [])
 | .el ag sz,.d (.list ag' sz' [])=>Cf (ag==ag') (Cf (Nat.beq sz sz') (some []))
 | .nils ag sz,.nils ag' sz'=>Cf (ag==ag') (Cf (Nat.beq sz sz') (some []))
 | .nilp,.nilp=>some []
 | .nilm,.nilm=>some []
 | .nilf,.nilf=>some []
 | .un,.un=>some []
 | .ptr i o,.ptr i' o'=>Cf (Id.beq i i') (Cf (Nat.beq o o') (some []))
 | .ow i,.ow i'=>Cf (Id.beq i i') (some [])
 | .fn f c,.fn f' c'=>Cf (Nat.beq f f') (Cf (QA c c') (some []))
 | .bm f i,.bm f' i'=>Cf (Nat.beq f f') (Cf (Id.beq i i') (some []))
 | _,_=>none
def jI:Sj→List Lf→Option (CV×List Lf)
 | .int k,.I z::r=>some (.d (.int k z),r)
 | .bool,.B b::r=>some (.d (.bool b),r)
 | .str,.S s::r=>some (.d (.str s),r)
 | .list ag sz,.L l::r=>some (.d (.list ag sz l),r)
 | .tl ag sz,.L l::r=>some (.tl ag sz l,r)
 | .ci k z,r=>some (.d (.int k z),r)
 | .cb b,r=>some (.d (.bool b),r)
 | .cs s,r=>some (.d (.str s),r)
 | .el ag sz,r=>some (.d (.list ag sz []),r)
 | .nils ag sz,r=>some (.nils ag sz,r)
 | .nilp,r=>some (.nilp,r)
 | .nilm,r=>some (.nilm,r)
 | .nilf,r=>some (.nilf,r)
 | .un,r=>some (.un,r)
 | .ptr i o,r=>some (.ptr i o,r)
 | .ow i,r=>some (.ow i,r)
 | .fn f c,r=>some (.fn f c,r)
 | .bm f i,r=>some (.bm f i,r)
 | _,_=>none
theorem Oi {s:Sj}{c:CV}{l:List Lf}(h:Zm s c=some l) (rest:List Lf):jI s (l++rest)=some (c,rest):=by
 unfold Zm at h
 split at h
 ·obtain⟨h1,h⟩:=Ak h
  cases h
  rw[show _=_ from of_decide_eq_true h1];rfl
 ·cases h;rfl
 ·cases h;rfl
 ·obtain⟨h1,h⟩:=Ak h
  obtain⟨h2,h⟩:=Ak h
  cases h
  rw[eq_of_beq h1,Nat.eq_of_beq_eq_true h2];rfl
 ·obtain⟨h1,h⟩:=Ak h
  obtain⟨h2,h⟩:=Ak h
  cases h
  rw[eq_of_beq h1,Nat.eq_of_beq_eq_true h2];rfl
 ·obtain⟨h1,h⟩:=Ak h
  obtain⟨h2,h⟩:=Ak h
  cases h
  rw[show _=_ from of_decide_eq_true h1,Zg h2];rfl
 ·obtain⟨h1,h⟩:=Ak h
  cases h
  rw[eq_of_beq h1];rfl
 ·obtain⟨h1,h⟩:=Ak h
  cases h
  rw[WI h1];rfl
 ·obtain⟨h1,h⟩:=Ak h
  obtain⟨h2,h⟩:=Ak h
  cases h
  rw[eq_of_beq h1,Nat.eq_of_beq_eq_true h2];rfl
 ·obtain⟨h1,h⟩:=Ak h
  obtain⟨h2,h⟩:=Ak h
  cases h
  rw[eq_of_beq h1,Nat.eq_of_beq_eq_true h2];rfl
 ·cases h;rfl
 ·cases h;rfl
 ·cases h;rfl
 ·cases h;rfl
 ·obtain⟨h1,h⟩:=Ak h
  obtain⟨h2,h⟩:=Ak h
  cases h
  rw[Id.beq_iff.1 h1,Nat.eq_of_beq_eq_true h2];rfl
 ·obtain⟨h1,h⟩:=Ak h
  cases h
  rw[Id.beq_iff.1 h1];rfl
 ·obtain⟨h1,h⟩:=Ak h
  obtain⟨h2,h⟩:=Ak h
  cases h
  rw[Nat.eq_of_beq_eq_true h1,KZ h2];rfl
 ·obtain⟨h1,h⟩:=Ak h
  obtain⟨h2,h⟩:=Ak h
  cases h
  rw[Nat.eq_of_beq_eq_true h1,Id.beq_iff.1 h2];rfl
 ·cases h
def Li:List Sj→List CV→Option (List Lf)
 | [],[]=>some []
 | s::ss,c::cs=>(match Zm s c with
  | some l=>(match Li ss cs with
   | some m=>some (l++m)
   | none=>none)
  | none=>none)
 | _,_=>none
def Lj:List Sj→List Lf→Option (List CV×List Lf)
 | [],r=>some ([],r)
 | s::ss,r=>(match jI s r with
  | some (c,r)=>(match Lj ss r with
   | some (cs,r)=>some (c::cs,r)
   | none=>none)
  | none=>none)
theorem Ii:∀{s:List Sj}{c:List CV}{l:List Lf},Li s c=some l→∀rest,Lj s (l++rest)=some (c,rest)
 | [],[],l,h,rest=>by cases h;rfl
 | s::ss,c::cs,l,h,rest=>by
  unfold Li at h
  split at h
  ·rename_i a ha
   split at h
   ·rename_i b hb
    cases h
    unfold Lj
    rw[List.append_assoc,Oi ha]
    simp only[]
    rw[Ii hb]
   ·cases h
  ·cases h
 | [],_::_,_,h,_=>by cases h
 | _::_,[],_,h,_=>by cases h
def WL:JY→AV→Option (List Lf)
 | .one s,.v (.d (.agg _))=>none
 | .one s,.v (.d x)=>Zm s (.d x)
 | .one s,.v (.c (.d _))=>none
 | .one s,.v (.c x)=>Zm s x
 | .agg ss,.v (.d (.agg cs))=>Li ss (cs.map CV.d)
 | .mix ss,.v (.agg cs)=>Li ss cs
 | _,_=>none
def Oj:JY→List Lf→Option (AV×List Lf)
 | .one s,r=>(match jI s r with
  | some (.d x,r)=>some (.v (.d x),r)
  | some (c,r)=>some (.v (.c c),r)
  | none=>none)
 | .agg ss,r=>(match Lj ss r with
  | some (cs,r)=>(match Zj cs with
   | some ds=>some (.v (.d (.agg ds)),r)
   | none=>none)
  | none=>none)
 | .mix ss,r=>(match Lj ss r with
  | some (cs,r)=>some (.v (.agg cs),r)
  | none=>none)
theorem QL {s:JY}{c:AV}{l:List Lf}(h:WL s c=some l) (rest:List Lf):Oj s (l++rest)=some (c,rest):=by
 unfold WL at h
 split at h
 ·cases h
 ·unfold Oj;simp only[];rw[Oi h]
 ·cases h
 ·rename_i x hx
  unfold Oj
  simp only[]
  rw[Oi h]
  cases x<;>first | rfl | exact absurd rfl (hx _)
 ·unfold Oj;simp only[];rw[Ii h];simp only[];rw[Oh]
 ·unfold Oj;simp only[];rw[Ii h]
 ·cases h
def Lk:List JY→List AV→Option (List Lf)
 | [],[]=>some []
 | s::ss,c::cs=>(match WL s c with
  | some l=>(match Lk ss cs with
   | some m=>some (l++m)
   | none=>none)
  | none=>none)
 | _,_=>none
def Fb:List JY→List Lf→Option (List AV×List Lf)
 | [],r=>some ([],r)
 | s::ss,r=>(match Oj s r with
  | some (c,r)=>(match Fb ss r with
   | some (cs,r)=>some (c::cs,r)
   | none=>none)
  | none=>none)
theorem HC:∀{s:List JY}{c:List AV}{l:List Lf},Lk s c=some l→∀rest,Fb s (l++rest)=some (c,rest)
 | [],[],l,h,rest=>by cases h;rfl
 | s::ss,c::cs,l,h,rest=>by
  unfold Lk at h
  split at h
  ·rename_i a ha
   split at h
   ·rename_i b hb
    cases h
    unfold Fb
    rw[List.append_assoc,QL ha]
    simp only[]
    rw[HC hb]
   ·cases h
  ·cases h
 | [],_::_,_,h,_=>by cases h
 | _::_,[],_,h,_=>by cases h
def Zn:VO→AB→Option (List Lf)
 | .c s,.cells cs=>Li s cs
 | .t k ag sz,.tree k' ag' sz' rows none=>Cf (lU k k') (Cf (ag==ag') (Cf (Nat.beq sz sz') (some [.L rows])))
 | .gone,.gone=>some []
 | _,_=>none
def Zo:VO→List Lf→Option (AB×List Lf)
 | .c s,r=>(match Lj s r with
  | some (cs,r)=>some (.cells cs,r)
  | none=>none)
 | .t k ag sz,.L l::r=>some (.tree k ag sz l none,r)
 | .gone,r=>some (.gone,r)
 | _,_=>none
theorem Xg {s:VO}{c:AB}{l:List Lf}(h:Zn s c=some l) (rest:List Lf):Zo s (l++rest)=some (c,rest):=by
 unfold Zn at h
 split at h
 ·unfold Zo;simp only[];rw[Ii h]
 ·obtain⟨h1,h⟩:=Ak h
  obtain⟨h2,h⟩:=Ak h
  obtain⟨h3,h⟩:=Ak h
  cases h
  rw[dR h1,eq_of_beq h2,Nat.eq_of_beq_eq_true h3];rfl
 ·cases h;rfl
 ·cases h
def HD:List VO→List AB→Option (List Lf)
 | [],[]=>some []
 | s::ss,o::os=>(match Zn s o with
  | some l=>(match HD ss os with
   | some m=>some (l++m)
   | none=>none)
  | none=>none)
 | _,_=>none
def Dw:List VO→List Lf→Option (List AB×List Lf)
 | [],r=>some ([],r)
 | s::ss,r=>(match Zo s r with
  | some (c,r)=>(match Dw ss r with
   | some (os,r)=>some (c::os,r)
   | none=>none)
  | none=>none)
theorem Dc:∀{s:List VO}{c:List AB}{l:List Lf},HD s c=some l→∀rest,Dw s (l++rest)=some (c,rest)
 | [],[],l,h,rest=>by cases h;rfl
 | s::ss,c::cs,l,h,rest=>by
  unfold HD at h
  split at h
  ·rename_i a ha
   split at h
   ·rename_i b hb
    cases h
    unfold Dw
    rw[List.append_assoc,Xg ha]
    simp only[]
    rw[Dc hb]
   ·cases h
  ·cases h
 | [],_::_,_,h,_=>by cases h
 | _::_,[],_,h,_=>by cases h
def lV:Sj→List Ty→List Ty
 | .int _,l=>.I::l
 | .bool,l=>.B::l
 | .str,l=>.S::l
 | .list _ _,l=>.L::l
 | .tl _ _,l=>.L::l
 | _,l=>l
def WM:List Sj→List Ty→List Ty
 | [],l=>l
 | s::ss,l=>lV s (WM ss l)
def MI:List JY→List Ty→List Ty
 | [],l=>l
 | s::ss,l=>(match s with
  | .one c=>lV c (MI ss l)
  | .agg cs=>WM cs (MI ss l)
  | .mix cs=>WM cs (MI ss l))
def MJ:List VO→List Ty
 | []=>[]
 | s::ss=>(match s with
  | .c l=>WM l (MJ ss)
  | .t _ _ _=>.L::MJ ss
  | .gone=>MJ ss)
class Rz (ρ:Type) where
 elim:{γ:Type}→ρ→(Nat→List Lf→Option γ)→Option γ
 make:Nat→List Lf→Option ρ
 alt:ρ→Nat
 pack:ρ→List Lf
 law:∀{γ:Type} {p:ρ} {k:Nat→List Lf→Option γ},elim p k=k (alt p) (pack p)
 law2:∀{i:Nat} {l:List Lf} {p:ρ},make i l=some p→alt p=i∧pack p=l
instance rzOf {ρ:Type} [Res ρ]:Rz ρ:=⟨fun p k=>k 0 (Res.pack p),fun i l=>match i with
 | 0=>Xe ρ l
 | _+1=>none,fun _=>0,Res.pack,rfl,fun {i l p} h=>by
  cases i with
  | zero=>exact⟨rfl,(Ld h).symm⟩
  | succ i=>cases h⟩
instance rzSum {α β:Type} [Res α] [Rz β]:Rz (α ⊕ β):=⟨fun p k=>match p with
 | .inl a=>k 0 (Res.pack a)
 | .inr b=>Rz.elim b fun i l=>k (i+1) l,fun i l=>match i with
 | 0=>(match Xe α l with
  | some a=>some (.inl a)
  | none=>none)
 | i+1=>(match Rz.make i l with
  | some b=>some (.inr b)
  | none=>none),fun p=>match p with
 | .inl _=>0
 | .inr b=>Rz.alt b+1,fun p=>match p with
 | .inl a=>Res.pack a
 | .inr b=>Rz.pack b,fun {γ p k}=>by
  cases p with
  | inl a=>rfl
  | inr b=>exact Rz.law,fun {i l p} h=>by
  cases i with
  | zero=>
   simp only[]at h
   split at h
   ·rename_i a ha;cases h;exact⟨rfl,(Ld ha).symm⟩
   ·cases h
  | succ i=>
   simp only[]at h
   split at h
   ·rename_i b hb
    cases h
    obtain⟨h1,h2⟩:=Rz.law2 hb
    exact⟨by show Rz.alt b+1=_;rw[h1],h2⟩
   ·cases h⟩
structure Cn (γ:Type) where
 p:Nat
 ks:List Nat
 is:List Id
 nx:Nat
 sk:List JY
 hk:List VO
 app:Nat→Tv γ (MI sk (MJ hk))
 pl:Pl
def Cn.st (s:Cn γ) (lv:List Lf):Option St:=
 match Fb s.sk lv with
 | some (vs,lv)=>(match Dw s.hk lv with
  | some (os,_)=>some ⟨Fk s.ks vs,Fk s.is os,s.nx⟩
  | none=>none)
 | none=>none
def Rx (ks:List Nat) (is:List Id) (n:Nat) (l:List (Nat×Nat)) (σ:St):Option (List AV×List AB):=
 match C6 (AK σ.heap) (is.map (N6 l))with
 | none=>none
 | some os=>Aj (QA ((is.map (N6 l)).map (Eb l)) is)<| Aj (BP (fD (KF l n)) (ks.map (AH σ.slots)))<| Aj (BP (fun x:Id×AB=>match KF l n x.1 with | true=>KC (KF l n) x.2 | false=>false) (Fk (is.map (N6 l)) os))<|
   some ((ks.map (AH σ.slots)).map (AV.Ar (Eb l)),os.map (AB.Ar (Eb l)))
theorem QM (l:List (Nat×Nat)):∀(ks:List Nat) (vs:List AV),XF l (Fk ks vs)=Fk ks (vs.map (AV.Ar (Eb l)))
 | [],_=>rfl
 | _::_,[]=>rfl
 | k::ks,v::vs=>by show (k,v.Ar (Eb l))::XF l (Fk ks vs)=_;rw[QM l ks vs];rfl
theorem QN (l:List (Nat×Nat)):∀(ks:List Id) (vs:List AB),PF l (Fk ks vs)=Fk (ks.map (Eb l)) (vs.map (AB.Ar (Eb l)))
 | [],_=>rfl
 | _::_,[]=>rfl
 | k::ks,v::vs=>by show (Eb l k,v.Ar (Eb l))::PF l (Fk ks vs)=_;rw[QN l ks vs];rfl
theorem T3 {p:AV→Bool}(l:List (Nat×AV)):∀ks:List Nat,BP p (ks.map (AH l))=true→BP (fun x:Nat×AV=>p x.2) (Fk ks (ks.map (AH l)))=true
 | [],_=>rfl
 | k::ks,h=>by
  unfold List.map BP at h
  split at h
  ·rename_i hk
   show (match p (AH l k)with | true=>_ | false=>_)=true
   rw[hk]
   exact T3 l ks h
  ·cases h
theorem VP {ks:List Nat}{is:List Id}{n:Nat}{l:List (Nat×Nat)}{σ:St}{vs:List AV}{os:List AB}(h:Rx ks is n l σ=some (vs,os)):∃σ',A8 σ σ'∧σ'=⟨Fk ks vs,Fk is os,n⟩:=by
 unfold Rx at h
 split at h
 ·cases h
 ·rename_i os' ho
  obtain⟨h0,h⟩:=AD h
  obtain⟨h1,h⟩:=AD h
  obtain⟨h2,h⟩:=AD h
  cases h
  refine Uv (K:=fun σ'=>σ'=_) (ks:=ks) (is:=is.map (N6 l)) (n:=n) (l:=l) ?_
  unfold Y3
  rw[JX ho,Lg]
  refine AA.2 ⟨T3 _ _ h1,AA.2 ⟨h2,?_⟩⟩
  rw[QM,QN,KZ h0]
def Cn.run (s:Cn γ) (n:Nat) (l:List (Nat×Nat)) (σ:St):Option (Option γ):=
 match Rx s.ks s.is s.nx l σ with
 | some (vs,os)=>(match Lk s.sk vs with
  | some a=>(match HD s.hk os with
   | some b=>some (QE _ (s.app n) (a++b))
   | none=>none)
  | none=>none)
 | none=>none
theorem Cn.Vl {s:Cn γ}{n:Nat}{l:List (Nat×Nat)}{σ:St}(h:s.run n l σ=some (some r)):∃lv σ',QE _ (s.app n) lv=some r∧s.st lv=some σ'∧A8 σ σ':=by
 unfold Cn.run at h
 split at h
 ·rename_i vs os hk
  split at h
  ·rename_i a ha
   split at h
   ·rename_i b hb
    obtain⟨σ',hw,rfl⟩:=VP hk
    refine⟨_,_,Option.some.inj h,?_,hw⟩
    unfold Cn.st
    rw[HC ha]
    simp only[]
    rw[←List.append_nil b,Dc hb]
   ·cases h
  ·cases h
 ·cases h
def JZ:List (Cn γ)→Nat→Nat→List (Nat×Nat)→St→Option γ
 | [],_,_,_,_=>none
 | s::l,n,p,rn,σ=>(match Nat.beq s.p p with
  | true=>(match s.run n rn σ with
   | some x=>x
   | none=>JZ l n p rn σ)
  | false=>JZ l n p rn σ)
theorem QO:∀{l:List (Cn γ)}{n p:Nat}{rn:List (Nat×Nat)}{σ:St},JZ l n p rn σ=some r→∃s∈l,s.p=p∧s.run n rn σ=some (some r)
 | s::l,n,p,rn,σ,h=>by
  have rest:JZ l n p rn σ=some r→∃s'∈s::l,s'.p=p∧s'.run n rn σ=some (some r):=fun h=>by
   obtain⟨s',h1,h2⟩:=QO h
   exact⟨s',List.mem_cons_of_mem _ h1,h2⟩
  unfold JZ at h
  split at h
  ·rename_i hb
   split at h
   ·rename_i x hx
    exact⟨s,List.mem_cons_self ..,Nat.eq_of_beq_eq_true hb,by rw[hx,h]⟩
   ·exact rest h
  ·exact rest h
 | [],_,_,_,_,h=>by cases h
def fP:List (Cn γ)→Nat→Bool
 | [],_=>false
 | s::l,p=>(match Nat.beq s.p p with
  | true=>true
  | false=>fP l p)
def VQ (ss:List (Cn γ)) (n p:Nat) (tk:Tk) (σ:St):Option γ:=DF tk.gs σ fun σ'=>JZ ss n p tk.l σ'
theorem Xh {ss:List (Cn γ)}{n p:Nat}{tk:Tk}{σ:St}(h:VQ ss n p tk σ=some r):∃σ1,A8 σ σ1∧∃s∈ss,s.p=p∧s.run n tk.l σ1=some (some r):=by
 obtain⟨σ1,hw,h⟩:=Bj (Cd (P:=fun σ'=>JZ ss n p tk.l σ'=some r) (fun σ h=>h) h)
 exact⟨σ1,hw,QO h⟩
inductive oB where
 | one (s:JY)
 | tup (l:List JY)
structure GF where
 res:oB
 post:List VO
 new:List VO
def T5 (s:GF) (x:Jg):Option (List Lf):=
 match s.res,x.res with
 | .one a,.v y=>(match WL a (.v y)with
  | some l=>(match HD s.post x.post with
   | some m=>(match HD s.new x.new with
    | some n=>some (l++(m++n))
    | none=>none)
   | none=>none)
  | none=>none)
 | .tup xs1,.t ys=>(match Lk xs1 (ys.map AV.v)with
  | some l=>(match HD s.post x.post with
   | some m=>(match HD s.new x.new with
    | some n=>some (l++(m++n))
    | none=>none)
   | none=>none)
  | none=>none)
 | _,_=>none
def MK (s:GF) (lv:List Lf):Option Jg:=
 match s.res with
 | .one a=>(match Oj a lv with
  | some (y,lv)=>(match Dw s.post lv with
   | some (os,lv)=>(match Dw s.new lv with
    | some (ns,_)=>some ⟨y,os,ns⟩
    | none=>none)
   | none=>none)
  | none=>none)
 | .tup xs1=>(match Fb xs1 lv with
  | some (ys,lv)=>(match VN ys with
   | some xs=>(match Dw s.post lv with
    | some (os,lv)=>(match Dw s.new lv with
     | some (ns,_)=>some ⟨.t xs,os,ns⟩
     | none=>none)
    | none=>none)
   | none=>none)
  | none=>none)
theorem Xi:∀{s:GF}{x:Jg}{l:List Lf},T5 s x=some l→MK s l=some x
 | ⟨.one a,ps,qs⟩,⟨.v y,post,new⟩,l,h=>by
  unfold T5 at h
  simp only[]at h
  split at h
  ·rename_i l1 h1
   split at h
   ·rename_i l2 h2
    split at h
    ·rename_i l3 h3
     cases h
     unfold MK
     simp only[]
     rw[QL h1]
     simp only[]
     rw[Dc h2]
     simp only[]
     rw[←List.append_nil l3,Dc h3]
    ·cases h
   ·cases h
  ·cases h
 | ⟨.tup xs1,ps,qs⟩,⟨.t ys,post,new⟩,l,h=>by
  unfold T5 at h
  simp only[]at h
  split at h
  ·rename_i l1 h1
   split at h
   ·rename_i l2 h2
    split at h
    ·rename_i l3 h3
     cases h
     unfold MK
     simp only[]
     rw[HC h1]
     simp only[]
     rw[Kb]
     simp only[]
     rw[Dc h2]
     simp only[]
     rw[←List.append_nil l3,Dc h3]
    ·cases h
   ·cases h
  ·cases h
 | ⟨.one _,_,_⟩,⟨.t _,_,_⟩,_,h=>by cases h
 | ⟨.tup _,_,_⟩,⟨.v _,_,_⟩,_,h=>by cases h
 | ⟨.one _,_,_⟩,⟨.u,_,_⟩,_,h=>by cases h
 | ⟨.tup _,_,_⟩,⟨.u,_,_⟩,_,h=>by cases h
def Ol:List GF→Nat→Option GF
 | [],_=>none
 | s::_,0=>some s
 | _::l,n+1=>Ol l n
structure Fc where
 f:FuncId
 args:List JY
 pre:List VO
 ret:List GF
 ρ:Type
 inst:Rz ρ
 F:Nat→Tv ρ (MI args (MJ pre))
def Fc.ok (P:Program) (I:Inv) (c:Fc) (n:Nat):Prop:=∀lv p,QE _ (c.F n) lv=some p→∀xs1 pre rk ret l1 l2,Fb c.args lv=some (xs1,l1)→Dw c.pre l1=some (pre,l2)→Ol c.ret (c.inst.alt p)=some rk→MK rk (c.inst.pack p)=some ret→∀xs,VN xs1=some xs→Bf P I c.f xs pre ret.res ret.post ret.new
def Ij:List Fc→Nat→ZX γ
 | [],_,_,_,_,_=>none
 | c::l,n,f,args,pre,k=>(match Nat.beq c.f f with
  | true=>(match Lk c.args (args.map AV.v)with
   | some a=>(match HD c.pre pre with
    | some b=>(match QE _ (c.F n) (a++b)with
     | some p=>c.inst.elim p fun i l=>(match Ol c.ret i with
      | some rk=>(match MK rk l with
       | some ret=>k i ret
       | none=>none)
      | none=>none)
     | none=>none)
    | none=>Ij l n f args pre k)
   | none=>Ij l n f args pre k)
  | false=>Ij l n f args pre k)
theorem Om {P:Program}{I:Inv}{n:Nat}:∀{l:List Fc},(∀c∈l,c.ok P I n)→(Ij l n:ZX γ).ok P I
 | [],_=>fun _ _ _ _ _ h=>by cases h
 | c::l,hc=>fun f args pre k r h=>by
  have rest:=Om (P:=P) (I:=I) (n:=n) (l:=l) fun c' hc'=>hc c' (List.mem_cons_of_mem _ hc')
  unfold Ij at h
  split at h
  ·rename_i hf
   split at h
   ·rename_i a ha
    split at h
    ·rename_i b hb
     split at h
     ·rename_i p hp
      rw[c.inst.law]at h
      split at h
      ·rename_i rk hrk
       split at h
       ·rename_i ret hr
        have e1:=HC ha b
        have e2:=Dc hb []
        rw[List.append_nil]at e2
        have:=hc c (List.mem_cons_self ..) _ _ hp _ _ _ _ _ _ e1 e2 hrk hr args (Kb args)
        rw[Nat.eq_of_beq_eq_true hf]at this
        exact⟨_,_,_,_,this,h⟩
       ·cases h
      ·cases h
     ·cases h
    ·exact rest f args pre k r h
   ·exact rest f args pre k r h
  ·exact rest f args pre k r h
def Ry (ti:Types) (rs:List ResultVar) (np:Nat) (σ:St) (fin:Jg→Option γ):Option γ:=
 match Oe ti σ rs with
 | none=>none
 | some xs=>(match C6 (AK σ.heap) (B0 0 np),C6 (AK σ.heap) (Bn (C7 (AK σ.heap) 100 (Bt xs++B0 0 np) []))with
  | some ps,some ns=>Aj (nodupB (Bn (C7 (AK σ.heap) 100 (Bt xs++B0 0 np) [])))<|
    Aj (fD (HL (Bn (C7 (AK σ.heap) 100 (Bt xs++B0 0 np) [])) σ.next) (N1 xs))<| Aj (BP (KC (HL (Bn (C7 (AK σ.heap) 100 (Bt xs++B0 0 np) [])) σ.next)) ps)<|
    Aj (BP (KC (HL (Bn (C7 (AK σ.heap) 100 (Bt xs++B0 0 np) [])) σ.next)) ns)<|
    fin ⟨(N1 xs).Ar (I5 (Bn (C7 (AK σ.heap) 100 (Bt xs++B0 0 np) []))),ps.map (AB.Ar (I5 (Bn (C7 (AK σ.heap) 100 (Bt xs++B0 0 np) [])))),ns.map (AB.Ar (I5 (Bn (C7 (AK σ.heap) 100 (Bt xs++B0 0 np) []))))⟩
  | _,_=>none)
theorem Bk.one {P:Program}{I:Inv}{f:FuncId}{args:List V1}{pre post new:List AB}{res:AV}{Q:AV→List AB→List AB→Prop}(h:Bf P I f args pre res post new) (hQ:Q res post new):Bk P I f args pre Q:=
 Bk.bI (fun a b c e=>by obtain⟨rfl,rfl,rfl⟩:=e;exact hQ) h
theorem HE {f:{γ:Type}→CV→(D→List Id→Option γ)→Option γ}(hf:∀{γ:Type}{r:γ}(c:CV) (K:D→List Id→Option γ),f c K=some r→∃d is,K d is=some r∧∀{γ':Type}(K':D→List Id→Option γ') (r':γ'),K' d is=some r'→f c K'=some r'):
  ∀{l:List CV} {K:List D→List Id→Option γ},Gl f l K=some r→∃d is,K d is=some r∧∀{γ':Type} (K':List D→List Id→Option γ') (r':γ'),K' d is=some r'→Gl f l K'=some r'
 | [],K,e=>⟨[],[],e,fun K' r' h=>h⟩
 | c::l,K,e=>by
  obtain⟨d,is,e,h1⟩:=hf c _ e
  obtain⟨ds,js,e,h2⟩:=HE hf e
  exact⟨d::ds,is++js,e,fun K' r' h=>h1 _ _ (h2 _ _ h)⟩
theorem Ke {h:AE}:∀{n:Nat}{γ:Type}{r:γ}(c:CV) (K:D→List Id→Option γ),Ca h n c K=some r→∃d is,K d is=some r∧∀{γ':Type}(K':D→List Id→Option γ') (r':γ'),K' d is=some r'→Ca h n c K'=some r'
 | 0,_,_,_,_,e=>by cases e
 | n+1,γ,r,c,K,e=>by
  unfold Ca at e
  split at e
  ·split at e
   ·cases e
   ·rename_i hc;exact⟨_,_,e,fun K' r' h=>by unfold Ca;simp only[hc];exact h⟩
  ·exact⟨_,_,e,fun K' r' h=>h⟩
  ·split at e
   ·rename_i hc;exact⟨_,_,e,fun K' r' h=>by unfold Ca;simp only[hc];exact h⟩
   ·cases e
  ·split at e
   ·rename_i hj
    split at e
    ·rename_i hx;exact⟨_,_,e,fun K' r' h=>by unfold Ca;simp only[hj,hx];exact h⟩
    ·cases e
   ·cases e
  ·split at e
   ·split at e
    ·rename_i hj
     obtain⟨d,is,e,h1⟩:=HE (f:=fun {γ}=>Ca h n) (fun c K e=>Ke c K e) e
     exact⟨_,_,e,fun K' r' h=>by unfold Ca;simp only[hj];exact h1 (fun ds is=>K' (.box ds) (_::is)) r' h⟩
    ·cases e
   ·cases e
  ·cases e
theorem Kg:∀{l:List Id}{h:AE}{K:AE→List Id→List (Id×AB)→Option γ},Du h l K=some r→∃a b c,K a b c=some r∧∀{γ':Type}(K':AE→List Id→List (Id×AB)→Option γ') (r':γ'),K' a b c=some r'→Du h l K'=some r'
 | [],_,_,e=>⟨_,_,_,e,fun K' r' h=>h⟩
 | i::l,h,K,e=>by
  unfold Du at e
  split at e
  ·rename_i hi
   obtain⟨h1,e⟩:=AD e
   obtain⟨ds,is,e,h2⟩:=HE (f:=fun {γ}=>Ca h 3) (fun c K e=>Ke c K e) e
   obtain⟨h3,e⟩:=AD e
   obtain⟨h4,e⟩:=AD e
   obtain⟨a,b,c,e,h5⟩:=Kg (l:=l) e
   refine⟨_,_,_,e,fun K' r' h'=>?_⟩
   unfold Du
   simp only[hi]
   rw[h1]
   refine h2 _ _ ?_
   rw[h3,h4]
   exact h5 (fun h' rd wr=>K' h' (i::(is++rd)) ((i,_)::(Aa is++wr))) r' h'
  ·cases e
theorem C8:∀{l:List Gh}{σ:St}{K:St→Option γ},DF l σ K=some r→∃σ1,K σ1=some r∧∀{γ':Type}(K':St→Option γ') (r':γ'),K' σ1=some r'→DF l σ K'=some r'
 | [],σ,_,e=>⟨σ,e,fun K' r' h=>h⟩
 | x::l,σ,K,e=>by
  unfold DF at e
  split at e
  ·obtain⟨a,b,c,e,h1⟩:=Kg e
   obtain⟨σ1,e,h2⟩:=C8 e
   exact⟨σ1,e,fun K' r' h=>by unfold DF;exact h1 _ _ (h2 K' r' h)⟩
  ·obtain⟨g1,e⟩:=AD e
   obtain⟨g2,e⟩:=AD e
   obtain⟨σ1,e,h2⟩:=C8 e
   exact⟨σ1,e,fun K' r' h=>by unfold DF;simp only[g1,g2];exact h2 K' r' h⟩
  ·obtain⟨g1,e⟩:=AD e
   split at e
   ·rename_i hi
    obtain⟨g2,e⟩:=AD e
    obtain⟨σ1,e,h2⟩:=C8 e
    exact⟨σ1,e,fun K' r' h=>by unfold DF;simp only[g1,hi,g2];exact h2 K' r' h⟩
   ·cases e
  ·split at e
   ·rename_i hi
    split at e
    ·obtain⟨g2,e⟩:=AD e
     obtain⟨σ1,e,h2⟩:=C8 e
     exact⟨σ1,e,fun K' r' h=>by unfold DF;simp only[hi,g2];exact h2 K' r' h⟩
    ·cases e
   ·cases e
  ·split at e
   ·rename_i hi
    obtain⟨σ1,e,h2⟩:=C8 e
    exact⟨σ1,e,fun K' r' h=>by unfold DF;simp only[hi];exact h2 K' r' h⟩
   ·cases e
  ·split at e
   ·rename_i hi
    obtain⟨σ1,e,h2⟩:=C8 e
    exact⟨σ1,e,fun K' r' h=>by unfold DF;simp only[hi];exact h2 K' r' h⟩
   ·cases e
  ·obtain⟨g1,e⟩:=AD e
   split at e
   ·rename_i hi
    obtain⟨g2,e⟩:=AD e
    obtain⟨σ1,e,h2⟩:=C8 e
    exact⟨σ1,e,fun K' r' h=>by unfold DF;simp only[g1,hi,g2];exact h2 K' r' h⟩
   ·cases e
  ·split at e
   ·rename_i hi
    split at e
    ·split at e
     ·obtain⟨σ1,e,h2⟩:=C8 e
      exact⟨σ1,e,fun K' r' h=>by unfold DF;simp only[hi];exact h2 K' r' h⟩
     ·cases e
    ·cases e
   ·cases e
  ·split at e
   ·rename_i hi
    split at e
    ·obtain⟨σ1,e,h2⟩:=C8 e
     exact⟨σ1,e,fun K' r' h=>by unfold DF;simp only[hi];exact h2 K' r' h⟩
    ·cases e
   ·cases e
  ·split at e
   ·rename_i hi
    split at e
    ·rename_i hd
     obtain⟨g1,e⟩:=AD e
     obtain⟨g2,e⟩:=AD e
     obtain⟨g3,e⟩:=AD e
     obtain⟨g4,e⟩:=AD e
     obtain⟨σ1,e,h2⟩:=C8 e
     exact⟨σ1,e,fun K' r' h=>by unfold DF;simp only[hi,hd,g1,g2,g3,g4];exact h2 K' r' h⟩
    ·cases e
   ·cases e
  ·cases e
theorem dS {l:List Gh}{σ:St}{K:St→Option γ}(e:DF l σ K=some r):∃σ1,K σ1=some r∧∀P:St→Prop,P σ1→gh l σ P:=by
 obtain⟨σ1,e,h⟩:=C8 e
 refine⟨σ1,e,fun P hP=>?_⟩
 classical
 exact Cd (K:=fun σ=>if P σ then some ()else none) (r:=()) (fun σ hσ=>by
  by_cases hp:P σ
  ·exact hp
  ·rw[if_neg hp]at hσ;cases hσ) (h _ _ (if_pos hP))
theorem QP {ti:Types}{rs:List ResultVar}{np:Nat}{σ0:St}{gs:List Gh}{fin:Jg→Option γ}(hg:DF gs σ0 (fun σ=>Ry ti rs np σ fin)=some r):∃res post new,fin ⟨res,post,new⟩=some r∧DZ ti rs σ0 res post new:=by
 obtain⟨σ,e,hP⟩:=dS hg
 unfold Ry at e
 split at e
 ·cases e
 ·rename_i xs hxs
  generalize hm:C7 (AK σ.heap) 100 (Bt xs++B0 0 np) []=m at e
  split at e
  ·rename_i ps ns hp hn
   obtain⟨h1,e⟩:=AD e
   obtain⟨h2,e⟩:=AD e
   obtain⟨h3,e⟩:=AD e
   obtain⟨h4,e⟩:=AD e
   exact⟨_,_,_,e,gs,hP _ (IC hxs ⟨Bn m,h1,(Q8 (p:=HL (Bn m) σ.next) (fun i hi=>Id.beq_iff.1 hi) h2).symm,Ig hp h3,Og hn h4,E9 _⟩)⟩
  ·cases e
def Oo (ti:Types) (rs:List ResultVar) (np:Nat) (fin:Jg→Option γ):Ro γ:=fun pl e σ=>match e with
 | .exit _=>none
 | .normal=>DF pl.take.gs σ fun σ=>Ry ti rs np σ fin
 | .ret=>DF pl.take.gs σ fun σ=>Ry ti rs np σ fin
structure Sw (P:Program) (ti:Types) where
 ds:(γ:Type)→Ds γ
 el:bK
 sok:TypeId→Bool
 hd:∀γ,(ds γ).ok
 hs:nB P ti sok
def R5 {P:Program}{ti:Types}(w:Sw P ti) (own:Bool) (cs:List Fc) (ss:List (Cn γ)) (n:Nat):EnvP γ:={ds:=w.ds γ,el:=w.el,own:=own,sok:=w.sok,call:=Ij cs n,has:=fP ss,rest:=VQ ss n}
def Cn.ok {P:Program}{ti:Types}(w:Sw P ti) (own:Bool) (cs:List Fc) (ss:List (Cn γ)) (nt:Nat) (body:Code) (K:Ro γ) (s:Cn γ):Prop:=
 (∀lv r,QE _ (s.app 0) lv≠some r)∧A6 (KW 300 s.p)=s.p∧∀n lv σ r,QE _ (s.app (n+1)) lv=some r→s.st lv=some σ→HB (R5 w own cs ss n) ti nt body K (KW 300 s.p) s.pl σ=some r
def Fe (mk:Nat→List Lf→Option γ):List GF→Nat→Jg→Option γ
 | [],_,_=>none
 | s::l,i,x=>(match T5 s x with
  | some v=>mk i v
  | none=>Fe mk l (i+1) x)
theorem QQ {mk:Nat→List Lf→Option γ}:∀{l:List GF}{i:Nat}{x:Jg},Fe mk l i x=some r→∃j rk v,Ol l j=some rk∧T5 rk x=some v∧mk (i+j) v=some r
 | [],_,_,h=>by cases h
 | s::l,i,x,h=>by
  unfold Fe at h
  split at h
  ·rename_i v hv;exact⟨0,s,v,rfl,hv,h⟩
  ·obtain⟨j,rk,v,h1,h2,h3⟩:=QQ h
   exact⟨j+1,rk,v,h1,h2,by rw[show i+(j+1)=i+1+j from by omega];exact h3⟩
theorem dT {P:Program}{I:Inv}{ti:Types}(hti:Ao P ti) (h1:BB ti) (hm:P.follows .mixedOrders=true) {f:FuncId}{fn:Func}{c:Code}(hf:P.funcs[f]?=some fn) (hb:fn.body=some c)
  (hname:(fn.name== "runtime.NumGoroutine")=false) {args:List V1} {pre post new:List AB} {res:AV} {nt:Nat} (hnt:fn.ntmps=nt) (hargs:Nat.ble args.length nt=true) {rs:List ResultVar} (hrs:fn.results.toList=rs)
  (w:Sw P ti) {own:Bool} {cs:List Fc} {ss:List (Cn γ)} {N np:Nat} {rk:List GF} {mk:Nat→List Lf→Option γ} {pl:Pl} (hc:∀m,m≤N→∀c∈cs,c.ok P I m) (hs:∀s∈ss,s.ok w own cs ss nt c (Oo ti rs np (Fe mk rk 0)))
  (hx:HB (R5 w own cs ss N) ti nt c (Oo ti rs np (Fe mk rk 0)) [] pl ⟨slotsOf args 0,A9 pre 0,0⟩=some r) (ho:∀j k v,Ol rk j=some k→mk j v=some r→MK k v=some ⟨res,post,new⟩):Bf P I f args pre res post new:=by
 have main:Bk P I f args pre fun a b c=>Fe mk rk 0 ⟨a,b,c⟩=some r:=by
  refine Bk.of hti h1 hm hf hb hname hnt hargs hrs fun M hP hI=>?_
  have:=(Eg (M:=M) (N:=N) (E:=R5 w own cs ss) (Kf:=Oo ti rs np (Fe mk rk 0)) (body:=c) (ti:=ti) (nt:=nt) (r:=r) (fun m hm=>⟨w.hd γ,by rw[hP];exact w.hs,by rw[hP,hI];exact Om (hc m hm)⟩) (fun m hm p tk σ e=>?_) c [] N (fun _=>Oo ti rs np (Fe mk rk 0))
   (fun e σ=>match e with
   | .exit _=>False
   | .normal=>∃res post new,Fe mk rk 0 ⟨res,post,new⟩=some r∧DZ ti rs σ res post new
   | .ret=>∃res post new,Fe mk rk 0 ⟨res,post,new⟩=some r∧DZ ti rs σ res post new) (Nat.le_refl _) (fun _ _=>rfl) (fun m p e σ _ h=>?_)).2 _ _ hx
  ·exact this
  ·replace e:VQ ss m p tk σ=some r:=e
   obtain⟨σ1,hw,s,hmem,rfl,e1⟩:=Xh e
   obtain⟨lv,σ',g1,g2,g3⟩:=Cn.Vl e1
   obtain⟨k1,k2,k3⟩:=hs s hmem
   cases m with
   | zero=>exact absurd g1 (k1 _ _)
   | succ m=>exact⟨m,σ',_,s.pl,Nat.lt_succ_self m,A8.trans hw g3,k2,k3 m lv σ' r g1 g2⟩
  ·cases e with
   | exit id=>cases h
   | normal=>exact QP h
   | ret=>exact QP h
 refine main.bI fun a b c h=>?_
 obtain⟨j,k,v,g1,g2,g3⟩:=QQ h
 rw[Nat.zero_add]at g3
 have h1:=Xi g2
 rw[ho j k v g1 g3]at h1
 cases h1
 exact⟨rfl,rfl,rfl⟩
structure GG where
 f:FuncId
 fn:Func
 own:Bool
 args:List JY
 pre:List VO
 ret:List GF
 ρ:Type
 inst:Rz ρ
 F:Nat→Tv ρ (MI args (MJ pre))
 pl:Pl
 sites:List (Cn ρ)
def GG.c (x:GG):Fc:=⟨x.f,x.args,x.pre,x.ret,x.ρ,x.inst,x.F⟩
def GG.go {P:Program}{ti:Types}(w:Sw P ti) (x:GG) (cs:List Fc) (n p:Nat) (pl:Pl) (σ:Option St):Option x.ρ:=
 match σ with
 | some σ=>HB (R5 w x.own cs x.sites n) ti x.fn.ntmps (QH x.fn) (Oo ti x.fn.results.toList x.pre.length (Fe x.inst.make x.ret 0)) (KW 300 p) pl σ
 | none=>none
def GG.st (x:GG) (lv:List Lf):Option St:=
 match Fb x.args lv with
 | some (xs1,l)=>(match VN xs1 with
  | some xs=>(match Dw x.pre l with
   | some (os,_)=>some ⟨slotsOf xs 0,A9 os 0,0⟩
   | none=>none)
  | none=>none)
 | none=>none
def Zp (γ:Type):List (Cn γ)→Type
 | []=>Unit
 | s::l=>(Tv γ (MI s.sk (MJ s.hk))×(Nat→Tv γ (MI s.sk (MJ s.hk))))×Zp γ l
def My:(l:List (Cn γ))→Zp γ l
 | []=>()
 | s::l=>((s.app 0,fun n=>s.app (n+1)),My l)
def Mz (go:Nat→Nat→Pl→Option St→Option γ):(l:List (Cn γ))→Zp γ l
 | []=>()
 | s::l=>((I7 _,fun n=>MT _ fun lv=>go n s.p s.pl (s.st lv)),Mz go l)
def GG.mS {P:Program}{ti:Types}(w:Sw P ti) (x:GG) (cs:List Fc):Prop:=
 My x.sites=Mz (GG.go w x cs) x.sites∧x.F=fun n=>MT _ fun lv=>GG.go w x cs n 1 x.pl (x.st lv)
theorem T6 {go:Nat→Nat→Pl→Option St→Option γ}:∀{l:List (Cn γ)},My l=Mz go l→∀s∈l,(s.app 0=I7 _∧(fun n=>s.app (n+1))=fun n=>MT _ fun lv=>go n s.p s.pl (s.st lv))
 | s::l,h,t,ht=>by
  have h1:=congrArg (fun x:Zp γ (s::l)=>x.1) h
  have h2:=congrArg (fun x:Zp γ (s::l)=>x.2) h
  cases ht with
  | head=>exact⟨congrArg Prod.fst h1,congrArg Prod.snd h1⟩
  | tail _ ht=>exact T6 h2 t ht
 | [],_,_,ht=>by cases ht
def GG.fits (P:Program) (x:GG):Bool:=
 (match x.fn.body with
 | some _=>true
 | none=>false)&&!(x.fn.name== "runtime.NumGoroutine")&&Nat.ble x.args.length x.fn.ntmps&&BP (fun s:Cn x.ρ=>Nat.beq (A6 (KW 300 s.p)) s.p) x.sites
theorem Oq:∀{s:List JY}{l:List Lf}{xs1:List AV}{q:List Lf},Fb s l=some (xs1,q)→xs1.length=s.length
 | [],l,xs1,q,h=>by cases h;rfl
 | s::ss,l,xs1,q,h=>by
  unfold Fb at h
  split at h
  ·split at h
   ·rename_i h2;cases h;simp[Oq h2]
   ·cases h
  ·cases h
theorem Ot:∀{s:List VO}{l:List Lf}{xs1:List AB}{q:List Lf},Dw s l=some (xs1,q)→xs1.length=s.length
 | [],l,xs1,q,h=>by cases h;rfl
 | s::ss,l,xs1,q,h=>by
  unfold Dw at h
  split at h
  ·split at h
   ·rename_i h2;cases h;simp[Ot h2]
   ·cases h
  ·cases h
theorem GG.step {P:Program}{I:Inv}{ti:Types}(hti:Ao P ti) (h1:BB ti) (hm:P.follows .mixedOrders=true) (w:Sw P ti) {x:GG}{cs:List Fc}(hf:P.funcs[x.f]?=some x.fn) (hx:x.fits P=true) (he:My x.sites=Mz (GG.go w x cs) x.sites) {N:Nat}(hc:∀m,m≤N→∀c∈cs,c.ok P I m) {lv:List Lf}{p:x.ρ}(hp:GG.go w x cs N 1 x.pl (x.st lv)=some p):
  ∀xs1 pre rk ret l1 l2,Fb x.args lv=some (xs1,l1)→Dw x.pre l1=some (pre,l2)→Ol x.ret (x.inst.alt p)=some rk→MK rk (x.inst.pack p)=some ret→∀xs,VN xs1=some xs→Bf P I x.f xs pre ret.res ret.post ret.new:=by
 intro xs1 pre rk ret l1 l2 e1 e2 e6 e3 xs e4
 unfold GG.fits at hx
 simp only[Bool.and_eq_true,Bool.not_eq_true']at hx
 obtain⟨⟨⟨g1,g2⟩,g3⟩,g4⟩:=hx
 obtain⟨c,hb⟩:∃c,x.fn.body=some c:=by
  cases hb:x.fn.body with
  | none=>rw[hb]at g1;cases g1
  | some c=>exact⟨c,rfl⟩
 have hbody:QH x.fn=c:=by unfold QH;rw[hb]
 have hst:x.st lv=some ⟨slotsOf xs 0,A9 pre 0,0⟩:=by unfold GG.st;rw[e1];simp only[e4,e2]
 rw[hst]at hp
 unfold GG.go at hp
 simp only[]at hp
 have hpre:x.pre.length=pre.length:=(Ot e2).symm
 refine dT (γ:=x.ρ) (r:=p) (N:=N) (np:=x.pre.length) (rk:=x.ret) (mk:=x.inst.make) (ss:=x.sites) hti h1 hm hf hb g2 rfl (by rw[Rv e4,Oq e1];exact g3) rfl w hc (fun s hs=>?_) (by rw[←hbody];exact hp) (fun j k v hj hl=>?_)
 ·obtain⟨k1,k2⟩:=T6 he s hs
  refine⟨fun lv r=>by rw[k1];exact T2,?_,fun n lv σ r q1 q2=>?_⟩
  ·exact Nat.eq_of_beq_eq_true (Az.1 g4 s hs)
  ·rw[show s.app (n+1)=_ from congrFun k2 n]at q1
   have:=F3 q1
   rw[q2]at this
   rw[←hbody]
   exact this
 ·obtain⟨a1,a2⟩:=x.inst.law2 hl
  rw[a1,hj]at e6
  cases e6
  rw[←a2,e3]
theorem GG.mT {P:Program}{I:Inv}{x:GG}{n:Nat}(h:∀lv p,QE _ (x.F n) lv=some p→∀xs1 pre rk ret l1 l2,Fb x.args lv=some (xs1,l1)→Dw x.pre l1=some (pre,l2)→Ol x.ret (x.inst.alt p)=some rk→MK rk (x.inst.pack p)=some ret→∀xs,VN xs1=some xs→Bf P I x.f xs pre ret.res ret.post ret.new):x.c.ok P I n:=h
end
end Go.AM
namespace Go.AM
open Go Go.RowKit
section
variable {γ:Type}
def pB (b:Bool) (k:Bool→γ):γ:=match b with
 | true=>k true
 | false=>k false
theorem jJ (b:Bool) (k:Bool→γ):pB b k=k b:=by cases b<;>rfl
def QR (n:Nat) (k:Nat→γ):γ:=match n with
 | .zero=>k .zero
 | .succ m=>k (.succ m)
theorem GH (n:Nat) (k:Nat→γ):QR n k=k n:=by cases n<;>rfl
def oC (z:Int) (k:Int→γ):γ:=match z with
 | .ofNat n=>QR n fun n=>k (.ofNat n)
 | .negSucc n=>QR n fun n=>k (.negSucc n)
theorem jK (z:Int) (k:Int→γ):oC z k=k z:=by cases z<;>simp only[oC,GH]
def SY {α:Type}(f:α→(α→γ)→γ):List α→(List α→γ)→γ
 | [],k=>k []
 | x::l,k=>f x fun x=>SY f l fun l=>k (x::l)
theorem EJ {α:Type}{f:α→(α→γ)→γ}(hf:∀x k,f x k=k x):∀(l:List α) (k:List α→γ),SY f l k=k l
 | [],k=>rfl
 | x::l,k=>by unfold SY;rw[hf,EJ hf l]
def It (i:Id) (k:Id→γ):γ:=match i with
 | .loc n=>QR n fun n=>k (.loc n)
 | .ext n=>QR n fun n=>k (.ext n)
theorem Kh (i:Id) (k:Id→γ):It i k=k i:=by cases i<;>simp only[It,GH]
def kI (x:D) (k:D→γ):γ:=match x with
 | .int q n=>oC n fun n=>k (.int q n)
 | .bool b=>pB b fun b=>k (.bool b)
 | .str s=>k (.str s)
 | .agg cs=>k (.agg cs)
 | .list ag sz rows=>k (.list ag sz rows)
 | .nil=>k .nil
 | .box cs=>k (.box cs)
 | .map sz rows=>k (.map sz rows)
theorem R6 (x:D) (k:D→γ):kI x k=k x:=by cases x<;>simp only[kI,jK,jJ]
def oD (x:FC) (k:FC→γ):γ:=match x with
 | .p i=>It i fun i=>k (.p i)
 | .d x=>kI x fun x=>k (.d x)
 | .h=>k .h
theorem jL (x:FC) (k:FC→γ):oD x k=k x:=by cases x<;>simp only[oD,Kh,R6]
def fQ (x:CV) (k:CV→γ):γ:=match x with
 | .un=>k .un
 | .d x=>kI x fun x=>k (.d x)
 | .ptr i o=>It i fun i=>QR o fun o=>k (.ptr i o)
 | .row ag sz x=>k (.row ag sz x)
 | .rp cs=>k (.rp cs)
 | .nilp=>k .nilp
 | .fn f cap=>QR f fun f=>SY It cap fun cap=>k (.fn f cap)
 | .nilf=>k .nilf
 | .nils ag sz=>k (.nils ag sz)
 | .tl ag sz rows=>k (.tl ag sz rows)
 | .lst i ag sz rows=>It i fun i=>k (.lst i ag sz rows)
 | .sl i n=>It i fun i=>QR n fun n=>k (.sl i n)
 | .map i=>It i fun i=>k (.map i)
 | .nilm=>k .nilm
 | .ap i b sz kk o=>It i fun i=>k (.ap i b sz kk o)
 | .ow i=>It i fun i=>k (.ow i)
 | .op i sz kk o=>It i fun i=>QR kk fun kk=>QR o fun o=>k (.op i sz kk o)
 | .yl i=>It i fun i=>k (.yl i)
 | .bm f i=>It i fun i=>k (.bm f i)
 | .fz f cs=>SY oD cs fun cs=>k (.fz f cs)
 | .fb i=>It i fun i=>k (.fb i)
 | .kv v=>k (.kv v)
theorem R7 (x:CV) (k:CV→γ):fQ x k=k x:=by cases x<;>simp only[fQ,Kh,GH,R6,EJ Kh,EJ jL]
def nD (x:V1) (k:V1→γ):γ:=match x with
 | .d x=>kI x fun x=>k (.d x)
 | .c x=>fQ x fun x=>k (.c x)
 | .agg cs=>SY fQ cs fun cs=>k (.agg cs)
theorem Zq (x:V1) (k:V1→γ):nD x k=k x:=by cases x<;>simp only[nD,R6,R7,EJ R7]
def kJ (x:AV) (k:AV→γ):γ:=match x with
 | .u=>k .u
 | .v x=>nD x fun x=>k (.v x)
 | .t xs=>SY nD xs fun xs=>k (.t xs)
 | .df f cs rows=>k (.df f cs rows)
theorem R8 (x:AV) (k:AV→γ):kJ x k=k x:=by cases x<;>simp only[kJ,Zq,EJ Zq]
def jM (x:Nat×AV) (k:Nat×AV→γ):γ:=kJ x.2 fun v=>k (x.1,v)
theorem dU (x:Nat×AV) (k:Nat×AV→γ):jM x k=k x:=by simp only[jM,R8]
def nF (x:AB) (k:AB→γ):γ:=match x with
 | .cells cs=>SY fQ cs fun cs=>k (.cells cs)
 | .tok n sz e=>k (.tok n sz e)
 | .map kt et es=>k (.map kt et es)
 | .arr cs1 ag sz rows cs2=>SY fQ cs1 fun cs1=>SY fQ cs2 fun cs2=>k (.arr cs1 ag sz rows cs2)
 | .tree kd ag sz rows foc=>SY kI rows fun rows=>(match foc with
  | none=>k (.tree kd ag sz rows none)
  | some (i,cs)=>QR i fun i=>SY fQ cs fun cs=>k (.tree kd ag sz rows (some (i,cs))))
 | .pmap n1 sz n rows foc=>k (.pmap n1 sz n rows foc)
 | .part c ag sz rows=>k (.part c ag sz rows)
 | .fnl f cs rows=>k (.fnl f cs rows)
 | .gone=>k .gone
 | .rnd r sl=>SY jM sl fun sl=>k (.rnd r sl)
 | .rndX j=>k (.rndX j)
theorem jN (x:AB) (k:AB→γ):nF x k=k x:=by
 cases x with
 | tree kd ag sz rows foc=>
  simp only[nF,EJ R6]
  cases foc with
  | none=>rfl
  | some y=>simp only[GH,EJ R7]
 | _=>simp only[nF,EJ R7,EJ dU]
def dV (x:Id×AB) (k:Id×AB→γ):γ:=It x.1 fun i=>nF x.2 fun o=>k (i,o)
theorem WN (x:Id×AB) (k:Id×AB→γ):dV x k=k x:=by simp only[dV,Kh,jN]
def nG (x:Id×AB) (k:Id×AB→γ):γ:=match x with
 | (i,o)=>k (i,o)
theorem Zr (x:Id×AB) (k:Id×AB→γ):nG x k=k x:=rfl
def Zs {α:Type}(b:Bool) (f:α→(α→γ)→γ) (x:α) (k:α→γ):γ:=match b with
 | true=>f x k
 | false=>k x
theorem R9 {α:Type}{f:α→(α→γ)→γ}(hf:∀x k,f x k=k x) (b:Bool) (x:α) (k:α→γ):Zs b f x k=k x:=by
 cases b
 ·rfl
 ·exact hf x k
def WO (b:Bool) (σ:St) (dst:Option Tmp) (v:AV) (wr:List (Id×AB)) (nx:Nat) (K:St→γ):γ:=
 match b with
 | false=>K ⟨BR σ.slots dst v,Be σ.heap wr,nx⟩
 | true=>kJ v fun v=>SY dV wr fun wr=>(match wr with
  | []=>K ⟨BR σ.slots dst v,σ.heap,nx⟩
  | x::l=>SY nG (Be σ.heap (x::l)) fun h=>K ⟨BR σ.slots dst v,h,nx⟩)
theorem Dx (b:Bool) (σ:St) (dst:Option Tmp) (v:AV) (wr:List (Id×AB)) (nx:Nat) (K:St→γ):WO b σ dst v wr nx K=K ⟨BR σ.slots dst v,Be σ.heap wr,nx⟩:=by
 unfold WO
 cases b with
 | false=>rfl
 | true=>
  simp only[R8,EJ WN]
  cases wr with
  | nil=>rfl
  | cons x l=>simp only[EJ Zr]
end
end Go.AM
namespace Go.AM
open Go Go.RowKit
noncomputable def Xj (i j:Id):Bool:=Id.rec (motive:=fun _=>Bool) (fun a=>Id.rec (motive:=fun _=>Bool) (fun b=>Nat.beq a b) (fun _=>false) j) (fun a=>Id.rec (motive:=fun _=>Bool) (fun _=>false) (fun b=>Nat.beq a b) j) i
theorem SA (i j:Id):Xj i j=Id.beq i j:=by cases i<;>cases j<;>rfl
theorem SB {i j:Id}:Xj i j=true↔i=j:=by rw[SA];exact Id.beq_iff
section
variable {γ:Type}{r:γ}
abbrev Nk (γ:Type):=Id→(Id→Option γ)→Option γ
def Nk.bk (f:Nk γ) (r:γ) (g:Id→Id):Prop:=∀i k,f i k=some r→∃i',i=g i'∧k i'=some r
def Nk.fw (f:Nk γ) (r:γ) (g:Id→Id):Prop:=∀i k,f i k=some r→k (g i)=some r
noncomputable def Ou {α:Type}(f:α→(α→Option γ)→Option γ) (l:List α) (k:List α→Option γ):Option γ:=
 List.rec (motive:=fun _=>(List α→Option γ)→Option γ) (fun k=>k []) (fun x _ ih k=>f x fun y=>ih fun ys=>k (y::ys)) l k
theorem Cu {α:Type}{f:α→(α→Option γ)→Option γ}{g:α→α}(hf:∀x k,f x k=some r→∃y,x=g y∧k y=some r):∀(l:List α) (k:List α→Option γ),Ou f l k=some r→∃ys,l=ys.map g∧k ys=some r
 | [],k,h=>⟨[],rfl,h⟩
 | x::l,k,h=>by
  obtain⟨y,rfl,h1⟩:=hf x _ (show f x (fun y=>Ou f l fun ys=>k (y::ys))=some r from h)
  obtain⟨ys,rfl,h2⟩:=Cu hf l _ h1
  exact⟨y::ys,rfl,h2⟩
theorem Dy {α:Type}{f:α→(α→Option γ)→Option γ}{g:α→α}(hf:∀x k,f x k=some r→k (g x)=some r):∀(l:List α) (k:List α→Option γ),Ou f l k=some r→k (l.map g)=some r
 | [],k,h=>h
 | x::l,k,h=>by
  have h:=hf x _ (show f x (fun y=>Ou f l fun ys=>k (y::ys))=some r from h)
  exact Dy hf l (fun ys=>k (g x::ys)) h
def lW:CV→Bool
 | .un=>true
 | .d _=>true
 | .ptr _ _=>false
 | .row _ _ _=>true
 | .rp _=>true
 | .nilp=>true
 | .fn _ _=>false
 | .nilf=>true
 | .nils _ _=>true
 | .tl _ _ _=>true
 | .lst _ _ _ _=>false
 | .sl _ _=>false
 | .map _=>false
 | .nilm=>true
 | .ap _ _ _ _ _=>false
 | .ow _=>false
 | .op _ _ _ _=>false
 | .yl _=>false
 | .bm _ _=>false
 | .fz _ _=>false
 | .fb _=>false
 | .kv _=>true
theorem WQ {c:CV}(h:lW c=true) (g:Id→Id):c.Ar g=c:=by cases c<;>first | rfl | cases h
def lX (f:Nk γ) (c:FC) (k:FC→Option γ):Option γ:=match c with
 | .p i=>f i fun i=>k (.p i)
 | .d x=>k (.d x)
 | .h=>k .h
theorem VR {f:Nk γ}{g:Id→Id}(hf:f.bk r g) (c:FC) (k:FC→Option γ) (h:lX f c k=some r):∃c',c=FC.Ar g c'∧k c'=some r:=by
 cases c with
 | p i=>obtain⟨i',rfl,hh⟩:=hf i _ h;exact⟨.p i',rfl,hh⟩
 | d x=>exact⟨.d x,rfl,h⟩
 | h=>exact⟨.h,rfl,h⟩
theorem VS {f:Nk γ}{g:Id→Id}(hf:f.fw r g) (c:FC) (k:FC→Option γ) (h:lX f c k=some r):k (FC.Ar g c)=some r:=by
 cases c with
 | p i=>exact hf i _ h
 | d x=>exact h
 | h=>exact h
noncomputable def jO (f:Nk γ) (c:CV) (k:CV→Option γ):Option γ:=match c with
 | .ptr i o=>f i fun i=>k (.ptr i o)
 | .fn n cap=>Ou f cap fun cap=>k (.fn n cap)
 | .lst i ag sz rows=>f i fun i=>k (.lst i ag sz rows)
 | .sl i n=>f i fun i=>k (.sl i n)
 | .map i=>f i fun i=>k (.map i)
 | .ap i b sz q o=>f i fun i=>k (.ap i b sz q o)
 | .ow i=>f i fun i=>k (.ow i)
 | .op i sz q o=>f i fun i=>k (.op i sz q o)
 | .yl i=>f i fun i=>k (.yl i)
 | .bm n i=>f i fun i=>k (.bm n i)
 | .fz n cs=>Ou (lX f) cs fun cs=>k (.fz n cs)
 | .fb i=>f i fun i=>k (.fb i)
 | _=>none
noncomputable def bL (f:Nk γ) (c:CV) (k:CV→Option γ):Option γ:=Bool.rec (motive:=fun _=>Option γ) (jO f c k) (k c) (lW c)
theorem Ll {f:Nk γ}{g:Id→Id}(hf:f.bk r g) (c:CV) (k:CV→Option γ) (h:bL f c k=some r):∃c',c=c'.Ar g∧k c'=some r:=by
 unfold bL at h
 cases ht:lW c with
 | true=>rw[ht]at h;exact⟨c,(WQ ht g).symm,h⟩
 | false=>
  rw[ht]at h
  replace h:jO f c k=some r:=h
  cases c with
  | ptr i o=>obtain⟨i',rfl,hh⟩:=hf i _ h;exact⟨.ptr i' o,rfl,hh⟩
  | fn n cap=>obtain⟨l,rfl,hh⟩:=Cu hf cap _ h;exact⟨.fn n l,rfl,hh⟩
  | lst i ag sz rows=>obtain⟨i',rfl,hh⟩:=hf i _ h;exact⟨.lst i' ag sz rows,rfl,hh⟩
  | sl i n=>obtain⟨i',rfl,hh⟩:=hf i _ h;exact⟨.sl i' n,rfl,hh⟩
  | map i=>obtain⟨i',rfl,hh⟩:=hf i _ h;exact⟨.map i',rfl,hh⟩
  | ap i b sz q o=>obtain⟨i',rfl,hh⟩:=hf i _ h;exact⟨.ap i' b sz q o,rfl,hh⟩
  | ow i=>obtain⟨i',rfl,hh⟩:=hf i _ h;exact⟨.ow i',rfl,hh⟩
  | op i sz q o=>obtain⟨i',rfl,hh⟩:=hf i _ h;exact⟨.op i' sz q o,rfl,hh⟩
  | yl i=>obtain⟨i',rfl,hh⟩:=hf i _ h;exact⟨.yl i',rfl,hh⟩
  | bm n i=>obtain⟨i',rfl,hh⟩:=hf i _ h;exact⟨.bm n i',rfl,hh⟩
  | fz n cs=>obtain⟨l,rfl,hh⟩:=Cu (VR hf) cs _ h;exact⟨.fz n l,rfl,hh⟩
  | fb i=>obtain⟨i',rfl,hh⟩:=hf i _ h;exact⟨.fb i',rfl,hh⟩
  | _=>cases ht
theorem Lm {f:Nk γ}{g:Id→Id}(hf:f.fw r g) (c:CV) (k:CV→Option γ) (h:bL f c k=some r):k (c.Ar g)=some r:=by
 unfold bL at h
 cases ht:lW c with
 | true=>rw[ht]at h;rw[WQ ht g];exact h
 | false=>
  rw[ht]at h
  replace h:jO f c k=some r:=h
  cases c with
  | ptr i o=>exact hf i _ h
  | fn n cap=>exact Dy hf cap _ h
  | lst i ag sz rows=>exact hf i _ h
  | sl i n=>exact hf i _ h
  | map i=>exact hf i _ h
  | ap i b sz q o=>exact hf i _ h
  | ow i=>exact hf i _ h
  | op i sz q o=>exact hf i _ h
  | yl i=>exact hf i _ h
  | bm n i=>exact hf i _ h
  | fz n cs=>exact Dy (VS hf) cs _ h
  | fb i=>exact hf i _ h
  | _=>cases ht
noncomputable def Zt (f:Nk γ) (x:V1) (k:V1→Option γ):Option γ:=match x with
 | .d x=>k (.d x)
 | .c x=>bL f x fun x=>k (.c x)
 | .agg cs=>Ou (bL f) cs fun cs=>k (.agg cs)
theorem Ja {f:Nk γ}{g:Id→Id}(hf:f.bk r g) (c:V1) (k:V1→Option γ) (h:Zt f c k=some r):∃c',c=c'.Ar g∧k c'=some r:=by
 cases c with
 | d x=>exact⟨.d x,rfl,h⟩
 | c x=>obtain⟨y,rfl,hh⟩:=Ll hf x _ h;exact⟨.c y,rfl,hh⟩
 | agg cs=>obtain⟨l,rfl,hh⟩:=Cu (Ll hf) cs _ h;exact⟨.agg l,rfl,hh⟩
theorem Zu {f:Nk γ}{g:Id→Id}(hf:f.fw r g) (c:V1) (k:V1→Option γ) (h:Zt f c k=some r):k (c.Ar g)=some r:=by
 cases c with
 | d x=>exact h
 | c x=>exact Lm hf x _ h
 | agg cs=>exact Dy (Lm hf) cs _ h
noncomputable def kK (f:Nk γ) (x:AV) (k:AV→Option γ):Option γ:=match x with
 | .u=>k .u
 | .v x=>Zt f x fun x=>k (.v x)
 | .t xs=>Ou (Zt f) xs fun xs=>k (.t xs)
 | .df n cs rows=>Ou (lX f) cs fun cs=>k (.df n cs rows)
theorem Zv {f:Nk γ}{g:Id→Id}(hf:f.bk r g) (c:AV) (k:AV→Option γ) (h:kK f c k=some r):∃c',c=c'.Ar g∧k c'=some r:=by
 cases c with
 | u=>exact⟨.u,rfl,h⟩
 | v x=>obtain⟨y,rfl,hh⟩:=Ja hf x _ (show Zt f x (fun x=>k (.v x))=some r from h);exact⟨.v y,rfl,hh⟩
 | t xs=>obtain⟨l,rfl,hh⟩:=Cu (Ja hf) xs _ h;exact⟨.t l,rfl,hh⟩
 | df n cs rows=>obtain⟨l,rfl,hh⟩:=Cu (VR hf) cs _ h;exact⟨.df n l rows,rfl,hh⟩
theorem VT {f:Nk γ}{g:Id→Id}(hf:f.fw r g) (c:AV) (k:AV→Option γ) (h:kK f c k=some r):k (c.Ar g)=some r:=by
 cases c with
 | u=>exact h
 | v x=>exact Zu hf x _ (show Zt f x (fun x=>k (.v x))=some r from h)
 | t xs=>exact Dy (Zu hf) xs _ h
 | df n cs rows=>exact Dy (VS hf) cs _ h
noncomputable def nH (f:Nk γ) (x:Nat×AV) (k:Nat×AV→Option γ):Option γ:=kK f x.2 fun v=>k (x.1,v)
theorem Zw {f:Nk γ}{g:Id→Id}(hf:f.bk r g) (c:Nat×AV) (k:Nat×AV→Option γ) (h:nH f c k=some r):∃c',c=(c'.1,c'.2.Ar g)∧k c'=some r:=by
 obtain⟨v,hv,h⟩:=Zv hf c.2 _ h
 exact⟨(c.1,v),by rw[←hv],h⟩
theorem jP {f:Nk γ}{g:Id→Id}(hf:f.fw r g) (c:Nat×AV) (k:Nat×AV→Option γ) (h:nH f c k=some r):k (c.1,c.2.Ar g)=some r:=VT hf c.2 _ h
noncomputable def fR (f:Nk γ) (x:AB) (k:AB→Option γ):Option γ:=match x with
 | .cells cs=>Ou (bL f) cs fun cs=>k (.cells cs)
 | .tok n sz e=>k (.tok n sz e)
 | .map kt et es=>k (.map kt et es)
 | .arr cs1 ag sz rows cs2=>Ou (bL f) cs1 fun cs1=>Ou (bL f) cs2 fun cs2=>k (.arr cs1 ag sz rows cs2)
 | .tree kd ag sz rows foc=>(match foc with
  | none=>k (.tree kd ag sz rows none)
  | some x=>Ou (bL f) x.2 fun cs=>k (.tree kd ag sz rows (some (x.1,cs))))
 | .pmap n1 sz n rows foc=>(match foc with
  | none=>k (.pmap n1 sz n rows none)
  | some x=>f x.2 fun i=>k (.pmap n1 sz n rows (some (x.1,i))))
 | .part c ag sz rows=>k (.part c ag sz rows)
 | .fnl n cs rows=>Ou (lX f) cs fun cs=>k (.fnl n cs rows)
 | .gone=>k .gone
 | .rnd rf sl=>Ou (nH f) sl fun sl=>k (.rnd rf sl)
 | .rndX j=>k (.rndX j)
theorem jQ {f:Nk γ}{g:Id→Id}(hf:f.bk r g) (c:AB) (k:AB→Option γ) (h:fR f c k=some r):∃c',c=c'.Ar g∧k c'=some r:=by
 cases c with
 | cells cs=>obtain⟨l,rfl,hh⟩:=Cu (Ll hf) cs _ h;exact⟨.cells l,rfl,hh⟩
 | arr cs1 ag sz rows cs2=>obtain⟨l,rfl,hh⟩:=Cu (Ll hf) cs1 _ h;obtain⟨l2,rfl,hh2⟩:=Cu (Ll hf) cs2 _ hh;exact⟨.arr l ag sz rows l2,rfl,hh2⟩
 | tree kd ag sz rows foc=>
  cases foc with
  | none=>exact⟨.tree kd ag sz rows none,rfl,h⟩
  | some x=>obtain⟨l,hl,h⟩:=Cu (Ll hf) x.2 _ h;exact⟨.tree kd ag sz rows (some (x.1,l)),by simp[AB.Ar,←hl],h⟩
 | pmap n1 sz n rows foc=>
  cases foc with
  | none=>exact⟨.pmap n1 sz n rows none,rfl,h⟩
  | some x=>obtain⟨i,hi,h⟩:=hf x.2 _ h;exact⟨.pmap n1 sz n rows (some (x.1,i)),by simp[AB.Ar,←hi],h⟩
 | fnl n cs rows=>obtain⟨l,rfl,hh⟩:=Cu (VR hf) cs _ h;exact⟨.fnl n l rows,rfl,hh⟩
 | rnd rf sl=>obtain⟨l,rfl,hh⟩:=Cu (Zw hf) sl _ h;exact⟨.rnd rf l,rfl,hh⟩
 | tok n sz e=>exact⟨.tok n sz e,rfl,h⟩
 | map kt et es=>exact⟨.map kt et es,rfl,h⟩
 | part c ag sz rows=>exact⟨.part c ag sz rows,rfl,h⟩
 | gone=>exact⟨.gone,rfl,h⟩
 | rndX j=>exact⟨.rndX j,rfl,h⟩
theorem Zx {f:Nk γ}{g:Id→Id}(hf:f.fw r g) (c:AB) (k:AB→Option γ) (h:fR f c k=some r):k (c.Ar g)=some r:=by
 cases c with
 | cells cs=>exact Dy (Lm hf) cs _ h
 | arr cs1 ag sz rows cs2=>exact Dy (Lm hf) cs2 (fun l=>k (.arr (cs1.map (CV.Ar g)) ag sz rows l)) (Dy (Lm hf) cs1 _ h)
 | tree kd ag sz rows foc=>
  cases foc with
  | none=>exact h
  | some x=>exact Dy (Lm hf) x.2 _ h
 | pmap n1 sz n rows foc=>
  cases foc with
  | none=>exact h
  | some x=>exact hf x.2 _ h
 | fnl n cs rows=>exact Dy (VS hf) cs _ h
 | rnd rf sl=>exact Dy (jP hf) sl _ h
 | _=>exact h
noncomputable def Xk {δ:Type}(h:List (Id×AB)) (i:Id) (no:δ) (yes:AB→δ):δ:=
 List.rec (motive:=fun _=>δ) no (fun x _ ih=>Bool.rec (motive:=fun _=>δ) ih (yes x.2) (Xj x.1 i)) h
theorem QS {h:List (Id×AB)}{i:Id}{yes:AB→Option γ}(e:Xk h i none yes=some r):∃o,AK h i=some o∧yes o=some r:=by
 induction h with
 | nil=>cases e
 | cons x h ih=>
  obtain⟨j,o⟩:=x
  replace e:Bool.rec (motive:=fun _=>Option γ) (Xk h i none yes) (yes o) (Xj j i)=some r:=e
  cases hq:Xj j i with
  | true=>
   rw[hq]at e
   exact⟨o,by show (match Id.beq j i with | true=>some o | false=>AK h i)=some o;rw[←SA,hq],e⟩
  | false=>
   rw[hq]at e
   obtain⟨o',h1,h2⟩:=ih e
   exact⟨o',by show (match Id.beq j i with | true=>some o | false=>AK h i)=some o';rw[←SA,hq];exact h1,h2⟩
noncomputable def Ff (h:List (Id×AB)) (f:Nk γ) (m:List Id) (k:List AB→Option γ):Option γ:=
 List.rec (motive:=fun _=>(List AB→Option γ)→Option γ) (fun k=>k []) (fun i _ ih k=>Xk h i none fun o=>fR f o fun o'=>ih fun l=>k (o'::l)) m k
def Jb (h:AE) (g:Id→Id) (m:List Id) (pre:List AB):Prop:=m.length=pre.length∧∀(j:Nat) i o,m[j]?=some i→pre[j]?=some o→h i=some (o.Ar g)
theorem Cq {h:List (Id×AB)}{f:Nk γ}{g:Id→Id}(hf:f.bk r g):∀(m:List Id) (k:List AB→Option γ),Ff h f m k=some r→∃pre,Jb (AK h) g m pre∧k pre=some r
 | [],k,e=>⟨[],⟨rfl,by simp⟩,e⟩
 | i::m,k,e=>by
  obtain⟨o,h1,e⟩:=QS (show Xk h i none (fun o=>fR f o fun o'=>Ff h f m fun l=>k (o'::l))=some r from e)
  obtain⟨o',rfl,e2⟩:=jQ hf o _ e
  obtain⟨pre,⟨h2,h3⟩,e3⟩:=Cq hf m _ e2
  refine⟨o'::pre,⟨by simp[h2],fun j i' o hj ho=>?_⟩,e3⟩
  cases j with
  | zero=>simp at hj ho;subst hj;subst ho;exact h1
  | succ j=>simp at hj ho;exact h3 j i' o hj ho
theorem Jb.post {h:AE}{g:Id→Id}:∀{n j:Nat}{pre:List AB},Jb h g (B0 j n) pre→DY h g pre j
 | 0,j,pre,hp=>by
  cases pre with
  | nil=>trivial
  | cons o l=>have:=hp.1;simp[B0]at this
 | n+1,j,pre,hp=>by
  cases pre with
  | nil=>have:=hp.1;simp[B0]at this
  | cons o l=>
   obtain⟨h1,h2⟩:=hp
   have rest:DY h g l (j+1):=Jb.post ⟨by simpa [B0] using h1,fun q i o hq ho=>h2 (q+1) i o (by simpa [B0] using hq) (by simpa using ho)⟩
   unfold DY
   split
   ·exact rest
   ·exact⟨h2 0 _ _ rfl rfl,rest⟩
theorem Jb.new {h:AE}{g:Id→Id}:∀{m:List Id}{pre:List AB},Jb h g m pre→Ix h g pre m
 | [],[],_=>trivial
 | [],_::_,hp=>by have:=hp.1;simp at this
 | _::_,[],hp=>by have:=hp.1;simp at this
 | i::m,o::pre,hp=>⟨hp.2 0 i o rfl rfl,Jb.new ⟨by simpa using hp.1,fun j i' o' hj ho=>hp.2 (j+1) i' o' (by simpa using hj) (by simpa using ho)⟩⟩
def exts:List Id:=[.ext 0,.ext 1,.ext 2,.ext 3,.ext 4,.ext 5,.ext 6,.ext 7,.ext 8,.ext 9,.ext 10,.ext 11,.ext 12,.ext 13,.ext 14,.ext 15,.ext 16,.ext 17,.ext 18,.ext 19,.ext 20,.ext 21,.ext 22,.ext 23,.ext 24,.ext 25,.ext 26,.ext 27,.ext 28,.ext 29,.ext 30,.ext 31,.ext 32,.ext 33,.ext 34,.ext 35,.ext 36,.ext 37,.ext 38,.ext 39,.ext 40,.ext 41,.ext 42,.ext 43,.ext 44,.ext 45,.ext 46,.ext 47,.ext 48,.ext 49,.ext 50,.ext 51,.ext 52,.ext 53,.ext 54,.ext 55,.ext 56,.ext 57,.ext 58,.ext 59,.ext 60,.ext 61,.ext 62,.ext 63]
def Zy:List Id:=[.loc 0,.loc 1,.loc 2,.loc 3,.loc 4,.loc 5,.loc 6,.loc 7,.loc 8,.loc 9,.loc 10,.loc 11,.loc 12,.loc 13,.loc 14,.loc 15,.loc 16,.loc 17,.loc 18,.loc 19,.loc 20,.loc 21,.loc 22,.loc 23,.loc 24,.loc 25,.loc 26,.loc 27,.loc 28,.loc 29,.loc 30,.loc 31,.loc 32,.loc 33,.loc 34,.loc 35,.loc 36,.loc 37,.loc 38,.loc 39,.loc 40,.loc 41,.loc 42,.loc 43,.loc 44,.loc 45,.loc 46,.loc 47,.loc 48,.loc 49,.loc 50,.loc 51,.loc 52,.loc 53,.loc 54,.loc 55,.loc 56,.loc 57,.loc 58,.loc 59,.loc 60,.loc 61,.loc 62,.loc 63]
theorem T7 {j:Nat}{x:Id}(h:exts[j]?=some x):x= .ext j:=by
 have e:exts=(List.range 64).map Id.ext:=rfl
 rw[e,List.getElem?_map,Option.map_eq_some_iff]at h
 obtain⟨n,hn,rfl⟩:=h
 obtain⟨hlt,hn⟩:=List.getElem?_eq_some_iff.1 hn
 simp at hn
 rw[hn]
theorem Zz {j:Nat}{x:Id}(h:Zy[j]?=some x):x= .loc j:=by
 have e:Zy=(List.range 64).map Id.loc:=rfl
 rw[e,List.getElem?_map,Option.map_eq_some_iff]at h
 obtain⟨n,hn,rfl⟩:=h
 obtain⟨hlt,hn⟩:=List.getElem?_eq_some_iff.1 hn
 simp at hn
 rw[hn]
noncomputable def VU (i:Id) (m e:List Id) (k:Id→Option γ):Option γ:=
 List.rec (motive:=fun _=>List Id→Option γ) (fun _=>none) (fun j _ ih e=>List.rec (motive:=fun _=>Option γ) none (fun e0 er _=>Bool.rec (motive:=fun _=>Option γ) (ih er) (k e0) (Xj j i)) e) m e
theorem M0 {i:Id}{k:Id→Option γ}:∀(m e:List Id),VU i m e k=some r→∃(j:Nat) (x:Id),m[j]?=some i∧e[j]?=some x∧k x=some r
 | [],_,h=>by cases h
 | _::_,[],h=>by cases h
 | j::m,e0::e,h=>by
  replace h:Bool.rec (motive:=fun _=>Option γ) (VU i m e k) (k e0) (Xj j i)=some r:=h
  cases hq:Xj j i with
  | true=>rw[hq]at h;exact⟨0,e0,by simp[SB.1 hq],rfl,h⟩
  | false=>
   rw[hq]at h
   obtain⟨q,x,h1,h2,h3⟩:=M0 m e h
   exact⟨q+1,x,by simpa using h1,by simpa using h2,h3⟩
noncomputable def X3 (m:List Id):Nk γ:=fun i k=>VU i m exts k
theorem Fg (m:List Id) (fresh:Nat):(X3 m:Nk γ).bk r (Av m fresh):=by
 intro i k h
 obtain⟨j,x,h1,h2,h3⟩:=M0 m exts h
 have:=T7 h2
 subst this
 exact⟨.ext j,by simp[Av,h1],h3⟩
noncomputable def Ki (m:List Id) (fresh:Nat):Nk γ:=fun i k=>
 Id.rec (motive:=fun _=>Option γ) (fun n=>Bool.rec (motive:=fun _=>Option γ) none (QR (Nat.add fresh n) fun q=>k (.loc q)) (Nat.blt n 31)) (fun n=>VU (.ext n) exts m k) i
theorem Eh (m:List Id) (fresh:Nat):(Ki m fresh:Nk γ).fw r (Av m fresh):=by
 intro i k h
 cases i with
 | loc n=>
  replace h:Bool.rec (motive:=fun _=>Option γ) none (QR (Nat.add fresh n) fun q=>k (.loc q)) (Nat.blt n 31)=some r:=h
  cases hb:Nat.blt n 31 with
  | false=>rw[hb]at h;cases h
  | true=>
   rw[hb]at h
   replace h:QR (Nat.add fresh n) (fun q=>k (.loc q))=some r:=h
   rw[GH]at h
   have:n<31:=by simp[Nat.blt]at hb;omega
   show k (Av m fresh (.loc n))=some r
   simp only[Av,if_pos this]
   exact h
 | ext n=>
  replace h:VU (.ext n) exts m k=some r:=h
  obtain⟨j,x,h1,h2,h3⟩:=M0 exts m h
  have:=T7 h1
  simp at this
  subst this
  show k (Av m fresh (.ext n))=some r
  simp only[Av,h2]
  exact h3
noncomputable def Xl (nm:List Id):Nk γ:=fun i k=>Id.rec (motive:=fun _=>Option γ) (fun n=>VU (.loc n) nm Zy k) (fun n=>k (.ext n)) i
theorem Kj (nm:List Id) (N:Nat):(Xl nm:Nk γ).bk r (CY nm N):=by
 intro i k h
 cases i with
 | loc n=>
  obtain⟨j,x,h1,h2,h3⟩:=M0 nm Zy (show VU (.loc n) nm Zy k=some r from h)
  have:=Zz h2
  subst this
  exact⟨.loc j,by simp[CY,h1],h3⟩
 | ext n=>exact⟨.ext n,rfl,h⟩
noncomputable def T8 (i:Id) (l:List Id):Bool:=List.rec (motive:=fun _=>Bool) false (fun j _ ih=>Bool.rec (motive:=fun _=>Bool) ih true (Xj j i)) l
noncomputable def Z1 (cs:List CV) (t:List Id):List Id:=List.rec (motive:=fun _=>List Id) t (fun c _ ih=>Bool.rec (motive:=fun _=>List Id) (ZW c++ih) ih (lW c)) cs
noncomputable def lY (o:AB) (t:List Id):List Id:=match o with
 | .cells cs=>Z1 cs t
 | .tree _ _ _ _ foc=>(match foc with
  | some x=>Z1 x.2 t
  | none=>t)
 | .fnl _ cs _=>P7 cs++t
 | .rnd _ sl=>WD sl++t
 | _=>t
noncomputable def Ep (h:List (Id×AB)) (n:Nat) (todo acc:List Id):List Id:=
 Nat.rec (motive:=fun _=>List Id→List Id→List Id) (fun _ acc=>acc) (fun _ ih todo acc=>List.rec (motive:=fun _=>List Id) acc (fun i t _=>Bool.rec (motive:=fun _=>List Id) (ih (Xk h i t fun o=>lY o t) (i::acc)) (ih t acc) (T8 i acc)) todo) n todo acc
noncomputable def lst (l:List Id) (k:List Id→Option γ):Option γ:=Ou (fun i k=>It i k) l k
theorem IH {l:List Id}{k:List Id→Option γ}(h:lst l k=some r):k l=some r:=by
 have:=Dy (g:=id) (fun x k h=>by rw[Kh]at h;exact h) l k h
 simpa using this
noncomputable def GI (l:List Id):Bool:=List.rec (motive:=fun _=>Bool) true (fun i t ih=>Bool.rec (motive:=fun _=>Bool) ih false (T8 i t)) l
theorem T9 {i:Id}:∀{l:List Id},T8 i l=true↔i∈l
 | []=>by simp[T8]
 | j::l=>by
  have e:T8 i (j::l)=Bool.rec (motive:=fun _=>Bool) (T8 i l) true (Xj j i):=rfl
  rw[e]
  cases hq:Xj j i with
  | true=>simp[SB.1 hq]
  | false=>
   have:i≠j:=fun e=>by subst e;rw[SB.2 rfl]at hq;cases hq
   simp only[List.mem_cons,this,false_or]
   exact T9
theorem DG:∀{l:List Id},GI l=true→l.Nodup
 | [],_=>by simp
 | i::l,h=>by
  have e:GI (i::l)=Bool.rec (motive:=fun _=>Bool) (GI l) false (T8 i l):=rfl
  rw[e]at h
  cases hm:T8 i l with
  | true=>rw[hm]at h;cases h
  | false=>
   rw[hm]at h
   refine List.nodup_cons.2 ⟨fun hi=>?_,DG h⟩
   rw[T9.2 hi]at hm
   cases hm
noncomputable def lZ (f:Nk γ) (m:List Id) (post:List AB) (k:List (Id×AB)→Option γ):Option γ:=
 List.rec (motive:=fun _=>List Id→(List (Id×AB)→Option γ)→Option γ) (fun _ k=>k []) (fun o _ ih m k=>List.rec (motive:=fun _=>Option γ) (k []) (fun i is _=>fR f o fun o'=>ih is fun l=>k ((i,o')::l)) m) post m k
theorem SC {f:Nk γ}{g:Id→Id}(hf:f.fw r g):∀(post:List AB) (m:List Id) (k:List (Id×AB)→Option γ),lZ f m post k=some r→k (Iv m g post)=some r
 | [],m,k,h=>by cases m<;>exact h
 | o::post,[],k,h=>h
 | o::post,i::m,k,h=>by
  have h:=Zx hf o _ (show fR f o (fun o'=>lZ f m post fun l=>k ((i,o')::l))=some r from h)
  exact SC hf post m (fun l=>k ((i,o.Ar g)::l)) h
noncomputable def Z2 (h:List (Id×AB)) (i:Id) (o:AB):List (Id×AB):=
 List.rec (motive:=fun _=>List (Id×AB)) [(i,o)] (fun x t ih=>Bool.rec (motive:=fun _=>List (Id×AB)) (x::ih) ((i,o)::t) (Xj x.1 i)) h
theorem WR:∀(h:List (Id×AB)) (i:Id) (o:AB),Z2 h i o=CR h i o
 | [],i,o=>rfl
 | (k,v)::h,i,o=>by
  have e:Z2 ((k,v)::h) i o=Bool.rec (motive:=fun _=>List (Id×AB)) ((k,v)::Z2 h i o) ((i,o)::h) (Xj k i):=rfl
  rw[e,WR h i o,SA]
  show _=(match Id.beq k i with | true=>(i,o)::h | false=>(k,v)::CR h i o)
  cases Id.beq k i<;>rfl
noncomputable def UA (h:List (Id×AB)) (l:List (Id×AB)):List (Id×AB):=
 List.rec (motive:=fun _=>List (Id×AB)→List (Id×AB)) (fun h=>h) (fun x _ ih h=>ih (Z2 h x.1 x.2)) l h
theorem UB:∀(l h:List (Id×AB)),UA h l=Be h l
 | [],h=>rfl
 | (i,o)::l,h=>by
  have e:UA h ((i,o)::l)=UA (Z2 h i o) l:=rfl
  rw[e,UB l,WR]
  rfl
noncomputable def fS (h l:List (Id×AB)) (k:List (Id×AB)→Option γ):Option γ:=
 Ou (fun x k=>k (x.1,x.2)) (UA h l) k
theorem Z3 {h l:List (Id×AB)}{k:List (Id×AB)→Option γ}(e:fS h l k=some r):k (Be h l)=some r:=by
 have:=Dy (g:=id) (fun x k h=>h) (UA h l) k e
 rw[UB]at this
 simpa using this
def kT:AB→Nat
 | .cells _=>1
 | .tree ..=>2
 | .arr ..=>3
 | .map ..=>4
 | .pmap ..=>5
 | .rnd ..=>6
 | .rndX _=>7
 | .gone=>8
 | _=>9
noncomputable def UC (a b:AB):Bool:=Bool.rec (motive:=fun _=>Bool) (WE a b) (Nat.blt (kT a) 8) (Nat.beq (kT a) (kT b))
theorem Z4 {a b:AB}(h:UC a b=true):sameKind a b:=by
 unfold UC at h
 cases hb:Nat.beq (kT a) (kT b)with
 | false=>rw[hb]at h;exact To h
 | true=>
  rw[hb]at h
  replace h:Nat.blt (kT a) 8=true:=h
  cases a<;>cases b<;>first | trivial | (simp[kT]at hb;done) | (simp[kT,Nat.blt]at h;done)
noncomputable def GJ (a b:List AB):Bool:=
 List.rec (motive:=fun _=>List AB→Bool) (fun b=>List.rec (motive:=fun _=>Bool) true (fun _ _ _=>false) b) (fun x _ ih b=>List.rec (motive:=fun _=>Bool) false (fun y t _=>Bool.rec (motive:=fun _=>Bool) false (ih t) (UC x y)) b) a b
theorem Di:∀{a b:List AB},GJ a b=true→BI a b
 | [],[],_=>trivial
 | [],_::_,h=>by cases h
 | _::_,[],h=>by cases h
 | x::a,y::b,h=>by
  have e:GJ (x::a) (y::b)=Bool.rec (motive:=fun _=>Bool) false (GJ a b) (UC x y):=rfl
  rw[e]at h
  cases hq:UC x y with
  | false=>rw[hq]at h;cases h
  | true=>rw[hq]at h;exact⟨Z4 hq,Di h⟩
noncomputable def UD (f:Nk γ) (fresh:Nat) (q:Nat) (new:List AB) (k:List (Id×AB)→Option γ):Option γ:=
 List.rec (motive:=fun _=>Nat→(List (Id×AB)→Option γ)→Option γ) (fun _ k=>k []) (fun o _ ih q k=>QR (Nat.add fresh q) fun p=>fR f o fun o'=>ih (Nat.succ q) fun l=>k ((.loc p,o')::l)) new q k
theorem Kk {f:Nk γ}{g:Id→Id}(hf:f.fw r g) (fresh:Nat):∀(new:List AB) (q:Nat) (k:List (Id×AB)→Option γ),UD f fresh q new k=some r→k (B4 fresh g q new)=some r
 | [],q,k,h=>h
 | o::new,q,k,h=>by
  replace h:QR (Nat.add fresh q) (fun p=>fR f o fun o'=>UD f fresh (Nat.succ q) new fun l=>k ((.loc p,o')::l))=some r:=h
  rw[GH]at h
  have h:=Zx hf o _ h
  exact Kk hf fresh new (q+1) (fun l=>k ((.loc (fresh+q),o.Ar g)::l)) h
noncomputable def UE (m:List Id) (fresh:Nat) (post new:List AB) (h:List (Id×AB)) (k:List (Id×AB)→Option γ):Option γ:=
 lZ (Ki m fresh) m post fun w1=>UD (Ki m fresh) fresh 0 new fun w2=>fS h (w1++w2) k
theorem Kl {m:List Id}{fresh:Nat}{post new:List AB}{h:List (Id×AB)}{k:List (Id×AB)→Option γ}(e:UE m fresh post new h k=some r):k (Be h (Iv m (Av m fresh) post++B4 fresh (Av m fresh) 0 new))=some r:=
 Z3 (Kk (Eh m fresh) fresh new 0 _ (SC (Eh m fresh) post m _ e))
noncomputable def GK (ti:Types) (rs:List ResultVar) (np:Nat) (σ:St) (fin:Jg→Option γ):Option γ:=
 match Oe ti σ rs with
 | none=>none
 | some xs=>lst (Bn (Ep σ.heap 200 (Bt xs++B0 0 np) [])) fun nm=>Aj (GI nm)<| kK (Xl nm) (N1 xs) fun res=>Ff σ.heap (Xl nm) (B0 0 np) fun ps=>Ff σ.heap (Xl nm) nm fun ns=>fin ⟨res,ps,ns⟩
theorem QT {ti:Types}{rs:List ResultVar}{np:Nat}{σ:St}{fin:Jg→Option γ}(e:GK ti rs np σ fin=some r):∃res post new,fin ⟨res,post,new⟩=some r∧DZ ti rs σ res post new:=by
 unfold GK at e
 split at e
 ·cases e
 ·rename_i xs hxs
  have e:=IH e
  generalize Ep σ.heap 200 (Bt xs++B0 0 np) []=m at e
  obtain⟨h1,e⟩:=AD e
  obtain⟨res,h2,e⟩:=Zv (Kj _ σ.next) _ _ e
  obtain⟨ps,h3,e⟩:=Cq (Kj _ σ.next) _ _ e
  obtain⟨ns,h4,e⟩:=Cq (Kj _ σ.next) _ _ e
  exact⟨res,ps,ns,e,[],IC hxs ⟨Bn m,Ba.2 (DG h1),h2,h3.post,h4.new,E9 _⟩⟩
end
end Go.AM
namespace Go.AM
open Go Go.RowKit
def Xm (h:List (Id×AB)) (nx:Nat) (post new:List AB):Prop:=∃nm:List Id,nodupB nm=true∧DY (AK h) (CY nm nx) post 0∧Ix (AK h) (CY nm nx) new nm∧FR post nm
theorem Iu.intro {P:Program}{I:Inv}{ti:Types}(dr:AY→Nat→LB) (hti:Ao P ti) (h1:BB ti) (hdr:∀C:Cx,C.P=P→D9 C (dr C.M C.nt)) {f:FuncId}{fn:Func}{c:Code}(hf:P.funcs[f]?=some fn) (hb:fn.body=some c)
  (hname:(fn.name== "runtime.NumGoroutine")=false) {args:List V1} {pre post new:List AB} {v0:Value} (hargs:args.length≤fn.ntmps) (hnt:fn.ntmps≤DT) (hnr:Cc c=true)
  (hx:∀M:AY,M.P=P→M.I=I→M.cl=true→(∀s h nx,AH s DT= .df 0 [] []→Xm h nx post new→M.pn v0 s h nx)→
   exec M ti fn.ntmps (dr M fn.ntmps) c ⟨(DT,.df 0 [] [])::slotsOf args 0,A9 pre 0,0⟩ fun _ _=>False):Iu P I f args pre v0 post new:=by
 refine⟨⟨fn,c,hf,hb,hname⟩,fun w X g vals hX hI RH hg hsz hargs'=>?_⟩
 let pn:Value→List (Nat×AV)→List (Id×AB)→Nat→Prop:=fun v s h nx=>v=v0∧AH s DT= .df 0 [] []∧Xm h nx post new
 let C:Cx:={M:=AY.of P I true pn,nt:=fn.ntmps,w0:=w,Z0:=zone g (Ae pre),X:=X,g0:=g,hinv:=hI,ro:=none,D:=[],hro:=fun l hl=>(by cases hl),hD:=fun r hr=>(by cases hr),hDn:=List.nodup_nil,hcl:=fun _=>⟨hnt,rfl⟩}
 have R0:BX C ⟨(DT,.df 0 [] [])::slotsOf args 0,A9 pre 0,0⟩ {tmps:=vals++Array.replicate (fn.ntmps - vals.size) undef,defers:=[]} w:=by
  refine EA (P:=P) (by simp[C];omega) ?_ (fun t=>?_) RH rfl rfl (fun _ _ h=>h) hX hg
  ·show DH _ _ _ true _ _ _
   rw[Ai]
   simp only[if_pos]
   intro f' cs' rows' e
   cases e
   exact⟨rfl,fun k r d hr=>by simp at hr⟩
  ·rw[Ai]
   simp only[]
   split
   ·trivial
   rcases De args 0 t with h | ⟨x,_,h2,h3⟩
   ·rw[h];trivial
   ·rw[h3]
    simp only[Nat.sub_zero]at h2
    have hlt:t<vals.size:=by rw[hsz];exact (List.getElem?_eq_some_iff.1 h2).1
    have:(vals++Array.replicate (fn.ntmps - vals.size) undef).getD t undef=vals[t]:=by
     simp[Array.getElem?_append,hlt]
    show Ag w _ g _ x ((vals++Array.replicate (fn.ntmps - vals.size) undef).getD t undef)
    rw[this]
    exact hargs' t x _ h2 (by simp[hlt])
 refine callsIn_wide.1 (callsIn_of_wp_marks (n:=0) hf hb trivial (wpIn_mono (BS (M:=AY.of P I true pn) (ro:=none) hti h1 (fun C hC hn=>by
  have:=hdr C (by show C.M.P=P;rw[hC];rfl)
  rw[hC,hn]at this
  exact this) c _ _ C _ w rfl rfl rfl (fun _=>hnr) (hx (AY.of P I true pn) rfl rfl rfl fun s h nx k1 k2=>⟨rfl,k1,k2⟩) R0) ?_))
 intro e a' w' hq
 cases e with
 | normal=>obtain⟨C',hle,σ,hf',hr⟩:=hq;exact hf'.elim
 | ret=>obtain⟨C',hle,σ,hf',hr⟩:=hq;exact hf'.elim
 | exit id=>obtain⟨C',hle,σ,hf',hr⟩:=hq;exact hf'.elim
 | goto l=>exact hq.elim
 | outgrown=>exact hq.elim
 | panic ch=>
  obtain⟨C',hle,v,s,h,nx,hpn,rfl,g1,R1⟩:=hq
  rw[hle.M]at hpn
  obtain⟨rfl,hdt,nm,hnd,hpost,hnewo,hhand⟩:=hpn
  have hd:=R1.defers
  rw[hle.M]at hd
  have hd0:a'.defers=[]:=by simpa using (hd 0 [] [] hdt).1
  have R2:AR C' (fun n=>(⟨s,h,nx⟩:St).next≤n) (AH (⟨s,h,nx⟩:St).slots) (AK (⟨s,h,nx⟩:St).heap) g1 a' w':=R1
  obtain⟨f1,f2,f3,f4⟩:=finish (σ:=⟨s,h,nx⟩) (X:=X) R2 (fun b o hx=>hle.X b o hx) (Ba.1 hnd) hpost hnewo hhand
  show LeavesInM Fence.wide 0 P fn a'.tmps _ a'.defers (.panicking _) w'
  rw[hd0]
  refine⟨fun i=>g1 (CY nm nx i),rfl,⟨f1,trivial,BZ.then hle.frame R1.frame (fun b o hz=>hle.Z0 b o hz),fun j=>(hle.ext j).trans (R1.ext j),fun i ob b o hi hb=>?_,f3⟩⟩
  obtain⟨j,ob',hj,hz⟩:=f2 i ob b o hi hb
  rcases R1.within j ob' b o hj hz with hz | hz
  ·exact hle.Z0 b o hz
  ·exact .inr (Nat.le_trans hle.frame.size hz)
end Go.AM
namespace Go.AM
open Go Go.RowKit
section
variable {C:Cx}{ti:Types}
def Bl (listed:Array Bool) (k:Nat):Bool:=listed.getD k false
theorem Xn (ops:Array Oper) (es:List Kv) (s0:AN) (h0:AE) (base:Nat) (Q:Exit→Act→World→Prop)
  (hes:∀(n:Nat) e,es[n]?=some e→ops.toList[n]?=some e.o) (hle:es.length≤ops.size) (hback:LG ops.toList 0=true)
  (ahead:∀(i j:Nat) ei ej,es[i]?=some ei→es[j]?=some ej→i<j→(CA ops ei.o ej.o || Dq (ei.rd,ei.wr.map (·.1)) (ej.rd,ej.wr.map (·.1)))=true→Cv ops.toList i j)
  (hlex:J4 C ops base es 0 s0 h0)
  (hfin:es.length=ops.size→∀a w,Rel C (fun n=>base+32*ops.size≤n) (MO es s0) (MP es h0) a w→Q .normal a w)
  (hbeh:∀k,es.length<k→k<ops.size→Cv ops.toList es.length k)
  (hstop:es.length<ops.size→∀(S:Nat→Bool) (fuel:Nat) (listed:Array Bool) a w,(∀k,Cv ops.toList k es.length→S k=true)→(∀k,es.length≤k→S k=false)→
   Rel C (fun n=>base≤n∧∀i,S i=true→¬(base+32*i≤n∧n<base+32*i+32)) (CO S es 0 s0) (Bd S es 0 h0) a w→
   wpOpIn (A7 C.ro) 0 C.P ops Q es.length (wpAnyIn (A7 C.ro) 0 C.P .any ops Q fuel listed) a w):
  ∀(fuel:Nat) (listed:Array Bool) (a:Act) (w:World),listed.size=ops.size→
   ((List.range ops.size).filter (fun k=>!(Bl listed k))).length=fuel→
   (∀i j,Cv ops.toList i j→Bl listed j=true→Bl listed i=true)→
   (∀k,es.length≤k→Bl listed k=false)→
   Rel C (fun n=>base≤n∧∀i,Bl listed i=true→¬(base+32*i≤n∧n<base+32*i+32)) (CO (Bl listed) es 0 s0) (Bd (Bl listed) es 0 h0) a w→
   wpAnyIn (A7 C.ro) 0 C.P .any ops Q fuel listed a w:=by
 intro fuel
 induction fuel with
 | zero=>
  intro listed a w hsz hcnt hcl hno R
  have hall:∀k,k<ops.size→Bl listed k=true:=by
   intro k hk
   have:=List.eq_nil_of_length_eq_zero hcnt
   cases hs:Bl listed k with
   | true=>rfl
   | false=>
    have:k∈(List.range ops.size).filter (fun k=>!Bl listed k):=by simp[hk,hs]
    rw[List.eq_nil_of_length_eq_zero hcnt]at this
    simp at this
  refine⟨?_,?_⟩
  ·cases hr:Region.ready .any ops listed with
   | nil=>rfl
   | cons j l=>
    have hj:j∈Region.ready .any ops listed:=by rw[hr];simp
    obtain⟨h2,o,ho,_⟩:=mem_ready.1 hj
    have hlt:=(Array.getElem?_eq_some_iff.1 ho).1
    have:=hall j hlt
    simp only[Bl]at this
    have hjl:j<listed.size:=by omega
    simp[hjl]at this h2
    rw[this]at h2
    simp at h2
  ·have hlen:es.length=ops.size:=by
    rcases Nat.lt_or_ge es.length ops.size with h | h
    ·have h1:=hall _ h
     have h2:Bl listed es.length=false:=hno _ (Nat.le_refl _)
     rw[h2]at h1
     cases h1
    ·omega
   refine hfin hlen a w ?_
   have R:Rel C (fun n=>base≤n∧∀i,Bl listed i=true→¬(base+32*i≤n∧n<base+32*i+32)) (CO (Bl listed) es 0 s0) (Bd (Bl listed) es 0 h0) a w:=R
   have z1:CO (Bl listed) es 0 s0=MO es s0:=J6 es 0 s0 (fun k hk=>by rw[Nat.zero_add];exact hall k (by omega))
   have z2:Bd (Bl listed) es 0 h0=MP es h0:=IY es 0 h0 (fun k hk=>by rw[Nat.zero_add];exact hall k (by omega))
   rw[z1,z2]at R
   refine R.AW (fun n hn=>?_)
   refine⟨by omega,fun i hi=>?_⟩
   have:i<ops.size:=by
    simp only[Bl]at hi
    have hil:i<listed.size:=by
     rcases Nat.lt_or_ge i listed.size with h | h
     ·exact h
     ·simp[Array.getElem?_eq_none h]at hi
    omega
   omega
 | succ fuel ih=>
  intro listed a w hsz hcnt hcl hno R
  have hstep:∀i,i∈Region.ready .any ops listed→wpOpIn (A7 C.ro) 0 C.P ops Q i (wpAnyIn (A7 C.ro) 0 C.P .any ops Q fuel (listed.setIfInBounds i true)) a w:=by
   intro i hi
   obtain⟨hi0,o,ho,hedges⟩:=mem_ready.1 hi
   have hlt:i<ops.size:=(Array.getElem?_eq_some_iff.1 ho).1
   have hil:i<listed.size:=by omega
   have hS0:Bl listed i=false:=by
    simp[hil]at hi0
    simp[Bl,hil,hi0]
   have hS1:Bl (listed.setIfInBounds i true) i=true:=by simp[Bl,hil]
   have hSo:∀k,k≠i→Bl (listed.setIfInBounds i true) k=Bl listed k:=by
    intro k hk
    simp[Bl,Array.getElem?_setIfInBounds_ne (Ne.symm hk)]
   have hcl:∀i j,Cv ops.toList i j→Bl listed j=true→Bl listed i=true:=hcl
   have hno:∀k,es.length≤k→Bl listed k=false:=hno
   have gen0:∀x y,Cv ops.toList x y→y=i→Bl listed x=true:=by
    intro x y hxy
    induction hxy with
    | edge hj hee hb hei=>
     intro hy
     subst hy
     rw[←hei]
     have h2:=ho
     rw[←Array.getElem?_toList,hj]at h2
     cases h2
     exact hedges _ (by simpa using hee) hb
    | trans p q ihp ihq=>
     intro hy
     exact hcl _ _ p (ihq hy)
   rcases Nat.lt_trichotomy i es.length with hlte | heq | hgt
   rotate_left
   ·subst heq
    exact hstop hlt (Bl listed) fuel _ a w (fun k hk=>gen0 k _ hk rfl) hno R
   ·have h1:=gen0 _ _ (hbeh i hgt hlt) rfl
    rw[hno _ (Nat.le_refl _)]at h1
    cases h1
   have R:Rel C (fun n=>base≤n∧∀i,Bl listed i=true→¬(base+32*i≤n∧n<base+32*i+32)) (CO (Bl listed) es 0 s0) (Bd (Bl listed) es 0 h0) a w:=R
   obtain⟨en,hen⟩:∃en,es[i]?=some en:=⟨es[i],by simp[hlte]⟩
   have hEnt:=Yw es 0 i s0 h0 en hlex hen
   rw[Nat.zero_add]at hEnt
   obtain⟨ho',hd,hg,hrun,hskip⟩:=hEnt
   rw[ho]at ho'
   obtain rfl:o=en.o:=by simpa using ho'
   -- who writes what i reads or writes
   have order:∀k e,es[k]?=some e→k≠i→(k<i→(CA ops e.o en.o || Dq (e.rd,e.wr.map (·.1)) (en.rd,en.wr.map (·.1)))=true)→
     (i<k→(CA ops en.o e.o || Dq (en.rd,en.wr.map (·.1)) (e.rd,e.wr.map (·.1)))=true)→Bl listed k=decide (k<i):=by
    intro k e he hne c1 c2
    by_cases hki:k<i
    ·have ah:=ahead k i e en he hen hki (c1 hki)
     have:Bl listed k=true:=by
      have gen:∀x y,Cv ops.toList x y→y=i→Bl listed x=true:=by
       intro x y hxy
       induction hxy with
       | edge hj hee hb hei=>
        intro hy
        subst hy
        rw[←hei]
        have:=hes _ en hen
        rw[hj]at this
        simp at this
        subst this
        exact hedges _ (by simpa using hee) hb
       | trans p q ihp ihq=>
        intro hy
        exact hcl _ _ p (ihq hy)
      exact gen k i ah rfl
     simp[this,hki]
    ·have hik:i<k:=by omega
     have ah:=ahead i k en e hen he hik (c2 hik)
     have:Bl listed k=false:=by
      cases hs:Bl listed k with
      | false=>rfl
      | true=>have:=hcl i k ah hs;rw[hS0]at this;simp at this
     simp[this,hki]
   have slotAgree:∀t,t∈C0 ops en.o→CO (Bl listed) es 0 s0 t=CO (fun k=>decide (k<i)) es 0 s0 t:=by
    intro t ht
    refine C5 es 0 s0 s0 rfl (fun k e he hdst=>?_)
    rw[Nat.zero_add]
    by_cases hki:k=i
    ·subst hki;simp[hS0]
    ·refine order k e he hki (fun _=>?_) (fun _=>?_)
     ·simp[CA,FO (x:=t) (a:=e.o.dst.toList) (b:=C0 ops en.o) (by simp[hdst]) ht]
     ·simp[CA,FO (x:=t) (a:=C0 ops en.o) (b:=e.o.dst.toList) ht (by simp[hdst])]
   have idAgree:∀x,x∈en.rd→Bd (Bl listed) es 0 h0 x=Bd (fun k=>decide (k<i)) es 0 h0 x:=by
    intro x hx
    refine Dd es 0 h0 h0 rfl (fun k e he hw=>?_)
    rw[Nat.zero_add]
    by_cases hki:k=i
    ·subst hki;simp[hS0]
    ·refine order k e he hki (fun _=>?_) (fun _=>?_)
     ·simp[Dq,E8 (x:=x) (a:=e.wr.map (·.1)) (b:=en.rd) hw hx]
     ·simp[Dq,E8 (x:=x) (a:=en.rd) (b:=e.wr.map (·.1)) hx hw]
   have cl':∀x y,Cv ops.toList x y→Bl (listed.setIfInBounds i true) y=true→Bl (listed.setIfInBounds i true) x=true:=by
    intro x y hxy hy
    by_cases hx:x=i
    ·rw[hx];exact hS1
    ·rw[hSo x hx]
     by_cases hyi:y=i
     ·subst hyi
      have gen:∀x y',Cv ops.toList x y'→y'=y→Bl listed x=true:=by
       intro x y' hxy
       induction hxy with
       | edge hj hee hb hei=>
        intro hy
        subst hy
        rw[←hei]
        have:=hes _ en hen
        rw[hj]at this
        simp at this
        subst this
        exact hedges _ (by simpa using hee) hb
       | trans p q ihp ihq=>
        intro hy
        exact hcl _ _ p (ihq hy)
      exact gen x y hxy rfl
     ·rw[hSo y hyi]at hy
      exact hcl x y hxy hy
   have cnt':((List.range ops.size).filter (fun k=>!Bl (listed.setIfInBounds i true) k)).length=fuel:=by
    have:=filter_one (p:=fun k=>!Bl listed k) (p':=fun k=>!Bl (listed.setIfInBounds i true) k) (i:=i) (l:=List.range ops.size) List.nodup_range (by simp[hlt]) (by simp[hS0]) (by simp[hS1])
     (fun k hk=>by simp[hSo k hk])
    omega
   have addS:CO (Bl (listed.setIfInBounds i true)) es 0 s0=Bp (CO (Bl listed) es 0 s0) en.o.dst en.val:=by
    funext t
    refine Nt es 0 s0 hen (by simpa using hS0) (by simpa using hS1) (fun k hk=>hSo k (by omega)) (fun hdst k e he hdst' hik=>?_)
    rw[Nat.zero_add]
    have:=order k e he (by omega) (fun h=>absurd h (by omega)) (fun _=>by simp[CA,FO (x:=t) (a:=en.o.dst.toList) (b:=e.o.dst.toList) (by simp[hdst]) (by simp[hdst'])])
    rw[this]
    simp;omega
   have addH:Bd (Bl (listed.setIfInBounds i true)) es 0 h0=Aq (Bd (Bl listed) es 0 h0) en.wr:=by
    funext x
    refine LH es 0 h0 hen (by simpa using hS0) (by simpa using hS1) (fun k hk=>hSo k (by omega)) (fun hw k e he hw' hik=>?_)
    rw[Nat.zero_add]
    have:=order k e he (by omega) (fun h=>absurd h (by omega)) (fun _=>by simp[Dq,E8 (x:=x) (a:=en.wr.map (·.1)) (b:=e.wr.map (·.1)) hw hw'])
    rw[this]
    simp;omega
   have next:∀a' w',Rel C (fun n=>(base≤n∧∀i,Bl listed i=true→¬(base+32*i≤n∧n<base+32*i+32))∧¬(base+32*i≤n∧n<base+32*i+32))
     (Bp (CO (Bl listed) es 0 s0) en.o.dst en.val) (Aq (Bd (Bl listed) es 0 h0) en.wr) a' w'→wpAnyIn (A7 C.ro) 0 C.P .any ops Q fuel (listed.setIfInBounds i true) a' w':=by
    intro a' w' R'
    refine ih _ a' w' (by simp[hsz]) cnt' cl' (fun k hk=>(hSo k (by omega)).trans (hno k hk)) ?_
    show Rel C _ (CO (Bl (listed.setIfInBounds i true)) es 0 s0) (Bd (Bl (listed.setIfInBounds i true)) es 0 h0) a' w'
    rw[addS,addH]
    refine R'.AW (fun n hn=>⟨⟨hn.1,fun j hj=>?_⟩,hn.2 i hS1⟩)
    by_cases hji:j=i
    ·subst hji;exact hn.2 j hS1
    ·exact hn.2 j (by rw[hSo j hji];exact hj)
   have hw:Region.wanted en.o (yielded ops a.tmps)=en.run:=by
    unfold Bx at hg
    split at hg
    ·rename_i hgn
     simp[Region.wanted,hgn,hg]
    ·rename_i j want hgs
     obtain⟨d,hdj,hsd⟩:=hg
     have hmem:d∈C0 ops en.o:=by simp[C0,hgs,hdj]
     rw[←slotAgree d hmem]at hsd
     rcases hsd with hsd | ⟨hrf,hsd⟩
     rotate_left
     ·have hy:yielded ops a.tmps j=none:=by
       obtain⟨g,R⟩:=R
       have:=R.slots d
       rw[hsd]at this
       obtain⟨vs,hv,_⟩:=this
       exact Gz hdj ⟨vs,hv⟩
      simp[Region.wanted,hgs,hy,hrf]
     have hy:yielded ops a.tmps j=some (if en.run then want else !want):=by
      obtain⟨g,R⟩:=R
      have:=R.slots d
      rw[hsd]at this
      have hv:=O1 this
      unfold yielded
      rw[hdj]
      have:a.tmps[d]?=some (.bool (if en.run then want else !want)):=by
       rw[Array.getD_eq_getD_getElem?]at hv
       cases h:a.tmps[d]? with
       | none=>rw[h]at hv;simp[undef]at hv
       | some v=>rw[h]at hv;simpa using hv
      simp[this]
     simp only[Region.wanted,hgs,hy]
     cases en.run<;>cases want<;>rfl
   unfold wpOpIn
   rw[ho]
   simp only[]
   cases hr:en.run with
   | true=>
    rw[if_pos (by rw[hw,hr])]
    refine HZ (hrun hr).1 (Oper.wp_mono next ?_)
    refine (hrun hr).2 _ _ _ a w Q R (fun t ht=>slotAgree t (by simp[C0,DX ht])) idAgree (fun k hk=>⟨by omega,fun j hj=>?_⟩) hd
    by_cases hji:j=i
    ·subst hji;rw[hS0]at hj;simp at hj
    ·omega
   | false=>
    rw[if_neg (by rw[hw,hr];simp)]
    obtain⟨z1,z2,z3⟩:=hskip hr
    refine⟨fun f _=>B9 _ f,next _ w ?_⟩
    rw[z1,z2]
    obtain⟨g,R⟩:=R
    refine⟨g,(R.put hd (v:=.t []) ⟨#[],rfl,rfl,by simp⟩).AW (fun n hn=>hn.1)⟩
  refine⟨fun hnil=>?_,hstep⟩
  -- not all are listed: the least of those is ready
  exfalso
  have hex:∃k,k<ops.size∧Bl listed k=false:=by
   have:(List.range ops.size).filter (fun k=>!Bl listed k)≠[]:=by intro e;rw[e]at hcnt;simp at hcnt
   obtain⟨k,hk⟩:=List.exists_mem_of_ne_nil _ this
   simp at hk
   exact⟨k,hk.1,hk.2⟩
  obtain⟨k,⟨hk1,hk2⟩,hmin⟩:=least hex
  have:k∈Region.ready .any ops listed:=by
   refine mem_ready.2 ⟨?_,ops[k],by simp[hk1],fun e he hb=>?_⟩
   ·have hkl:k<listed.size:=by omega
    simp only[Bl]at hk2
    simp[hkl]at hk2 ⊢
    exact hk2
   ·have hlt:e.on<0+k:=Nu ops.toList 0 k ops[k] e hback (by simp[hk1]) (by simpa using he) hb
    cases hs:Bl listed e.on with
    | true=>exact hs
    | false=>have:=hmin e.on ⟨by omega,hs⟩;omega
  rw[hnil]at this
  simp at this
def ES:AV→Option (FuncId×List V1×List V1)
 | .v (.c (.fn n cap))=>some (n,[],cap.map fun i=>V1.c (.ptr i 0))
 | .v (.c (.bm n i))=>some (n,[V1.c (.ptr i 0)],[])
 | _=>none
theorem PH {F:Nat→Prop}{σs:AN}{σh:AE}{g:AL}{a:Act}{w:World}(R:AR C F σs σh g a w) {o:Oper}{c:Call}{f:Operand}(ho:o.op= .call c) (hc:c.callee= .value f) {s:AN}
  (hs:∀t,Operand.tmp t∈o.op.operands.toList→σs t=s t) {n:FuncId} {as' bs xs:List V1} (h1:ES (AP ti s 0 f)=some (n,as',bs)) (h2:M9 (BM ti s c.args.toList c.argTypes.toList) xs)
  {fresh:Nat} {m:List Id} {targs:List V1} {pre:List AB} {v0:Value} {post new:List AB} (ht:Iu C.P C.M.I n targs pre v0 post new) (ha:as'++(xs++bs)=targs.map (V1.Ar (Av m fresh))) (hlen:m.length=pre.length) (hnd:m.Nodup)
  (hpre:∀(j:Nat) i o,m[j]?=some i→pre[j]?=some o→σh i=some (o.Ar (Av m fresh))) (hkd:BI pre post) (hnew:new.length≤31) (hF:∀k,k<32→F (fresh+k)) {Q:Exit→Act→World→Prop}
  (hP:∀g2 a w',AR C (fun k=>F k∧¬(fresh≤k∧k<fresh+32)) σs (Aq σh (Iv m (Av m fresh) post++B4 fresh (Av m fresh) 0 new)) g2 a w'→Q (.panic [{v:=v0,recovered:=false}]) a w') (next:Act→World→Prop):
  Oper.wpIn (A7 C.ro) 0 C.P o a w next Q:=by
 have hnd':∀c,o.op≠ .defer c:=fun c' h=>by rw[ho]at h;cases h
 have core:∀vals:Array Value,vals.size=(as'++(xs++bs)).length→(∀(j:Nat) x v,(as'++(xs++bs))[j]?=some x→vals[j]?=some v→Ag w (Al (zone g σh) C.X) g σh x v)→
   Calls C.P n vals w fun
    | .returned _,_=>False
    | .panicked chain,w''=>Q (.panic chain) a w''
    | .outgrown,_=>LetsOut Q:=by
  intro vals hsz hargs
  rw[ha]at hsz hargs
  have core:=DC (C:=C) (Qp:=fun r p q=>r= .u∧p=post∧q=new) (Run:=fun p=>Calls C.P n vals w fun e w'=>∃v,e= .panicked [{v:=v0,recovered:=false}]∧p (.returned v) w') (vals:=vals) (dst:=none) (Q:=fun _ _ _=>False) (a:=a) (fresh:=fresh) R
   (fun hpq hp=>hp.mono fun e w' ⟨v,h1,h2⟩=>⟨v,h1,hpq _ _ h2⟩)
   (fun X g1 _ k1 k2 k3 k4 k6=>(ht.2 w X g1 vals k1 k2 k3 k4 (by rw[hsz];simp) k6).mono (by rintro e w' ⟨g',h1,h2⟩;exact⟨undef,h1,undef,g',.u,post,new,⟨rfl,rfl,rfl⟩,rfl,h2⟩))
   hlen hnd hpre (by rintro _ _ _ ⟨rfl,rfl,rfl⟩;exact⟨hkd,hnew⟩) hF (fun d hd=>by cases hd) hargs
  refine core.mono ?_
  rintro e w' ⟨v,rfl,he⟩
  obtain⟨res,p,q,⟨rfl,rfl,rfl⟩,g2,_,R2⟩:=he
  exact hP g2 _ _ R2
 have hf:=AI ti 0 f R (s:=s) (fun k hk=>hs k (by subst hk;simp[ho,hc,Op.operands,Call.operands]))
 obtain⟨h3,h4⟩:=DD (ti:=ti) R c.args.toList c.argTypes.toList xs (fun t ht=>hs t (by simp[ho,hc,Op.operands,Call.operands];right;simpa using ht)) h2
 obtain⟨fn,body,hfn,hb,hname⟩:=ht.1
 have hn':¬fn.name= "runtime.NumGoroutine" :=by simpa using hname
 refine⟨fun f _=>B9 _ f,?_⟩
 rw[Oper.semAt_eq _ _ _ hnd']
 unfold ES at h1
 split at h1
 ·rename_i n' cap hop
  cases h1
  rw[hop]at hf
  obtain⟨hfv,hcap⟩:=hf
  have hrun:(execOp a.eval o).run C.P w= .ok (.enter n (c.args.map a.eval++(cap.map (fun i=>Bu (g i) 0)).toArray)) w:=by
   simp[execOp,ho,resolve,hc,hfv,Deferred.ofValue,invoke,callFunc,hfn,hb,hn']
  rw[hrun,Oper.uponIn_enter]
  refine⟨Bo _,CL ((core _ (by simp[h3]) fun j x v hx hv=>?_).mono ?_)⟩
  ·simp only[List.nil_append]at hx
   simp only[Array.getElem?_append,Array.size_map,List.getElem?_toArray]at hv
   by_cases hj:j<c.args.size
   ·rw[if_pos hj]at hv
    rw[List.getElem?_append_left (by rw[h3];simpa using hj)]at hx
    simp only[Array.getElem?_map,Option.map_eq_some_iff]at hv
    obtain⟨p,hp,rfl⟩:=hv
    exact h4 j x p hx (by simpa using hp)
   ·rw[if_neg hj]at hv
    rw[List.getElem?_append_right (by rw[h3];simpa using hj),h3]at hx
    simp only[List.getElem?_map,Option.map_eq_some_iff,Array.length_toList]at hx hv
    obtain⟨i,hi,rfl⟩:=hx
    obtain⟨i',hi',rfl⟩:=hv
    rw[hi]at hi'
    obtain rfl:i=i':=by simpa using hi'
    obtain⟨b,hb'⟩:=hcap i (List.mem_of_getElem? hi)
    exact⟨⟨b,hb'⟩,rfl⟩
  ·intro e w' he
   cases e with
   | returned v=>exact he.elim
   | panicked ch=>exact he
   | outgrown=>exact he
 ·rename_i n' i0 hop
  cases h1
  rw[hop]at hf
  obtain⟨⟨b0,hb0⟩,hfv⟩:=hf
  have hrun:(execOp a.eval o).run C.P w= .ok (.enter n (#[Bu (g i0) 0]++c.args.map a.eval)) w:=by
   simp[execOp,ho,resolve,hc,hfv,Deferred.ofValue,invoke,callFunc,hfn,hb,hn']
  rw[hrun,Oper.uponIn_enter]
  refine⟨Bo _,CL ((core _ (by simp[h3];omega) fun j x v hx hv=>?_).mono ?_)⟩
  ·cases j with
   | zero=>
    rw[Array.getElem?_append_left (by simp)]at hv
    simp at hx hv
    subst hx
    subst hv
    exact⟨⟨b0,hb0⟩,rfl⟩
   | succ j=>
    simp only[List.cons_append,List.nil_append,List.append_nil,List.getElem?_cons_succ]at hx
    simp only[Array.getElem?_append,Array.size_map]at hv
    rw[if_neg (by simp)]at hv
    simp only[Array.getElem?_map,Option.map_eq_some_iff]at hv
    obtain⟨p,hp,rfl⟩:=hv
    exact h4 j x p hx (by simpa using hp)
  ·intro e w' he
   cases e with
   | returned v=>exact he.elim
   | panicked ch=>exact he
   | outgrown=>exact he
 ·cases h1
theorem II (hti:Ao C.P ti) (h1:BB ti) {ops:Array Oper}{base:Nat}{K:St→List Fp→Prop}:∀(l:List Oper) (i:Nat) (σ:St) (fps:List Fp),
  (∀(k:Nat) o,l[k]?=some o→ops[i+k]?=some o)→BJ C.M ti C.nt ops base l i σ fps K→
  ∃(es:List Kv) (σ':St),es.map (·.o)=l∧J4 C ops base es i (AH σ.slots) (AK σ.heap)∧AH σ'.slots=MO es (AH σ.slots)∧AK σ'.heap=MP es (AK σ.heap)∧
   σ'.next=base+32*(i+l.length)∧K σ' (fps++es.map fun e=>(e.rd,e.wr.map (·.1)))
 | [],i,σ,fps,_,hk=>⟨[],⟨σ.slots,σ.heap,base+32*i⟩,rfl,trivial,rfl,rfl,by simp,by simpa using (show K ⟨σ.slots,σ.heap,base+32*i⟩ fps from hk)⟩
 | o::r,i,σ,fps,hl,hk=>by
  have hi:ops[i]?=some o:=by simpa using hl 0 o rfl
  have hr:∀(k:Nat) o,r[k]?=some o→ops[i+1+k]?=some o:=fun k o' h=>by
   have:=hl (k+1) o' (by simpa using h)
   rwa [show i+(k+1)=i+1+k from by omega]at this
  have run:∀(g:Bx ops ⟨o,true,.u,[],[]⟩ (AH σ.slots)),(EN o<| D0 C.nt o.dst<| CI C.M ti o (base+32*i) (AH σ.slots) (AK σ.heap) fun out=>
    BJ C.M ti C.nt ops base r (i+1) ⟨BR σ.slots o.dst out.val,Be σ.heap out.wr,σ.next⟩ (fps++[(out.rd,out.wr.map (·.1))]) K)→
    ∃(es:List Kv) (σ':St),es.map (·.o)=o::r∧J4 C ops base es i (AH σ.slots) (AK σ.heap)∧AH σ'.slots=MO es (AH σ.slots)∧AK σ'.heap=MP es (AK σ.heap)∧
     σ'.next=base+32*(i+(o::r).length)∧K σ' (fps++es.map fun e=>(e.rd,e.wr.map (·.1))):=by
   intro g hk
   obtain⟨hst,hnd,hk⟩:=Hf hk
   obtain⟨hd,hk⟩:=E6.1 hk
   obtain⟨out,hk,hok⟩:=Fx hti h1 hst.1 hst.2 hk
   obtain⟨es,σ',e1,e2,e3,e4,e5,e6⟩:=II hti h1 r (i+1) _ _ hr hk
   rw[CU]at e2 e3
   rw[Bw]at e2 e4
   refine⟨⟨o,true,out.val,out.rd,out.wr⟩::es,σ',by simp[e1],⟨hi,hd,g,fun _=>⟨hnd,hok⟩,fun e=>by simp at e,e2⟩,e3,e4,by rw[e5];simp;omega,?_⟩
   simpa using e6
  have skip:∀(g:Bx ops ⟨o,false,.t [],[],[]⟩ (AH σ.slots)),(D0 C.nt o.dst (BJ C.M ti C.nt ops base r (i+1) ⟨BR σ.slots o.dst (.t []),σ.heap,σ.next⟩ (fps++[([],[])]) K))→
    ∃(es:List Kv) (σ':St),es.map (·.o)=o::r∧J4 C ops base es i (AH σ.slots) (AK σ.heap)∧AH σ'.slots=MO es (AH σ.slots)∧AK σ'.heap=MP es (AK σ.heap)∧
     σ'.next=base+32*(i+(o::r).length)∧K σ' (fps++es.map fun e=>(e.rd,e.wr.map (·.1))):=by
   intro g hk
   obtain⟨hd,hk⟩:=E6.1 hk
   obtain⟨es,σ',e1,e2,e3,e4,e5,e6⟩:=II hti h1 r (i+1) _ _ hr hk
   rw[CU]at e2 e3
   refine⟨⟨o,false,.t [],[],[]⟩::es,σ',by simp[e1],⟨hi,hd,g,fun e=>by simp at e,fun _=>⟨rfl,rfl,rfl⟩,e2⟩,e3,e4,by rw[e5];simp;omega,?_⟩
   simpa using e6
  have hk':guarded ops o σ _ _:=hk
  unfold guarded at hk'
  split at hk'
  ·rename_i hg
   exact run (by simp[Bx,hg]) hk'
  ·rename_i j want hg
   split at hk'
   ·exact hk'.elim
   ·rename_i d hd
    split at hk'
    ·rename_i c hc
     cases want<;>cases c
     ·exact run (by simp only[Bx,hg];exact⟨d,hd,.inl hc⟩) hk'
     ·exact skip (by simp only[Bx,hg];exact⟨d,hd,.inl hc⟩) hk'
     ·exact skip (by simp only[Bx,hg];exact⟨d,hd,.inl hc⟩) hk'
     ·exact run (by simp only[Bx,hg];exact⟨d,hd,.inl hc⟩) hk'
    ·rename_i hc
     exact skip (by simp only[Bx,hg];exact⟨d,hd,.inr ⟨trivial,hc⟩⟩) hk'
    ·exact hk'.elim
def dW (ops:Array Oper) (i:Nat) (fps:List Fp) (m:List Id):Bool:=
 Nat.beq fps.length i&&(Nat.blt i ops.size&&(LG ops.toList 0&&(Mc ops (Nr ops.toList []) (number ops.toList (fps++[(m,[])]) 0)&&
  ((List.range i).all (fun k=>match fps[k]? with
   | some fp=>(match fp.2 with
    | []=>true
    | _=>((Nr ops.toList []).getD i 0).testBit k)
   | none=>false)&&(List.range ops.size).all fun k=>!(Nat.blt i k) || ((Nr ops.toList []).getD k 0).testBit i))))
def fT:AV→Bool
 | .df _ _ _=>true
 | _=>false
def Ov (ops:Array Oper) (l:List (Nat×AV)):List (Nat×AV):=
 l.filter fun x=>BQ (PB (fun o=>match o.dst with
  | some d=>Nat.beq d x.1
  | none=>false) ops.toList)
def isDst (ops:Array Oper) (t:Nat):Bool:=PB (fun o=>match o.dst with
  | some d=>Nat.beq d t
  | none=>false) ops.toList
theorem QU {α:Type}{p:α→Bool}:∀{l:List α},PB p l=true↔∃x∈l,p x=true
 | []=>by simp[PB]
 | x::l=>by
  unfold PB
  cases hx:p x with
  | true=>simp[hx]
  | false=>simp[hx,QU (l:=l)]
theorem Ln (ops:Array Oper):∀(l:List (Nat×AV)) (t:Nat),AH (Ov ops l) t=match isDst ops t with
  | true=>.u
  | false=>AH l t
 | [],t=>by cases h:isDst ops t<;>rfl
 | (k,v)::l,t=>by
  have ih:=Ln ops l t
  have e:Ov ops ((k,v)::l)=if BQ (isDst ops k)then (k,v)::Ov ops l else Ov ops l:=by
   unfold Ov
   rw[List.filter_cons]
   rfl
  rw[e]
  by_cases hk:t=k
  ·subst hk
   cases h:isDst ops t with
   | true=>
    rw[h]at ih
    simpa [BQ] using ih
   | false=>simp[BQ,Ai,Bp]
  ·cases h:isDst ops k with
   | true=>
    simp only[BQ,Bool.false_eq_true,if_false,ih]
    cases isDst ops t with
    | true=>rfl
    | false=>simp only[Ai,Bp,Option.some.injEq];rw[if_neg];exact hk
   | false=>
    simp only[BQ,if_true]
    rw[Ai]
    simp only[Bp,Option.some.injEq]
    rw[if_neg hk,ih]
    cases isDst ops t with
    | true=>rfl
    | false=>simp only[Ai,Bp,Option.some.injEq];rw[if_neg];exact hk
def WS (M:AY) (ti:Types) (nt:Nat) (ops:Array Oper) (σ:St):Prop:=
 ∃(i:Nat) (o:Oper) (c:Call) (f:Operand),ops[i]?=some o∧o.guard=none∧o.op= .call c∧c.callee= .value f∧fT (AH σ.slots DT)=true∧
  BJ M ti nt ops σ.next (ops.toList.take i) 0 σ [] fun σ' fps=>
   ∃(n:FuncId) (as' bs xs:List V1) (m:List Id) (targs:List V1) (pre:List AB) (v0:Value) (post new:List AB),
    (M.lock fun _=>dW ops i fps m=true)∧ES (AP ti (AH σ'.slots) 0 f)=some (n,as',bs)∧M9 (BM ti (AH σ'.slots) c.args.toList c.argTypes.toList) xs∧
    Iu M.P M.I n targs pre v0 post new∧as'++(xs++bs)=targs.map (V1.Ar (Av m (σ.next+32*i)))∧m.length=pre.length∧m.Nodup∧
    (∀(j:Nat) i' o,m[j]?=some i'→pre[j]?=some o→AK σ'.heap i'=some (o.Ar (Av m (σ.next+32*i))))∧BI pre post∧new.length≤31∧
    M.pn v0 (Ov ops σ.slots) (Be σ'.heap (Iv m (Av m (σ.next+32*i)) post++B4 (σ.next+32*i) (Av m (σ.next+32*i)) 0 new)) (σ.next+32*ops.size)
theorem Z5 (hti:Ao C.P ti) (h1:BB ti) (ops:Array Oper) (σ:St) (Q:Exit→Act→World→Prop) (a:Act) (w:World)
  (hP:∀v0 s h nx a w,C.M.pn v0 s h nx→Rel C (fun n=>nx≤n) (AH s) (AK h) a w→Q (.panic [{v:=v0,recovered:=false}]) a w) (hk:WS C.M ti C.nt ops σ) (R:BX C σ a w):
  wpAnyIn (A7 C.ro) 0 C.P .any ops Q ops.size (Array.replicate ops.size false) a {w with drawn:=w.drawn+1}:=by
 obtain⟨i,o,c,f,hi,hgd,ho,hc,hdf,hk⟩:=hk
 have hlt:i<ops.size:=(Array.getElem?_eq_some_iff.1 hi).1
 obtain⟨es,σ',e1,hlex,e3,e4,e5,n,as',bs,xs,m,targs,pre,v0,post,new,hlock,k1,k2,k3,k4,k5,k6,k7,k8,k9,k10⟩:=II hti h1 (ops.toList.take i) 0 σ [] (fun k o' h=>by
  rw[List.getElem?_take]at h
  split at h
  ·simpa using h
  ·cases h) hk
 have hB:=(C.M.lock_iff _).1 hlock
 simp only[List.nil_append]at hB
 simp only[dW,Bool.and_eq_true,Nat.beq_eq]at hB
 obtain⟨hlen,_,hback,hpairs,hw,hbeh⟩:=hB
 have hlen:es.length=i:=by simpa using hlen
 have hes:∀(n:Nat) e,es[n]?=some e→ops.toList[n]?=some e.o:=by
  intro n e he
  have h2:(ops.toList.take i)[n]?=some e.o:=by rw[←e1];simp[he]
  rw[List.getElem?_take]at h2
  split at h2
  ·exact h2
  ·cases h2
 have fget:∀(k:Nat) e,es[k]?=some e→((es.map fun e=>(e.rd,e.wr.map (·.1)))++[(m,[])])[k]?=some (e.rd,e.wr.map (·.1)):=by
  intro k e he
  have hk:k<es.length:=(List.getElem?_eq_some_iff.1 he).1
  rw[List.getElem?_append_left (by simpa using hk)]
  simp[he]
 have bit:∀x y,((Nr ops.toList []).getD y 0).testBit x=true→Cv ops.toList x y:=fun x y h=>LF ops.toList [] rfl (by simp[List.getD]) y x h
 have pair:∀(x y:Nat) ox oy fx fy,ops.toList[x]?=some ox→ops.toList[y]?=some oy→((es.map fun e=>(e.rd,e.wr.map (·.1)))++[(m,[])])[x]?=some fx→((es.map fun e=>(e.rd,e.wr.map (·.1)))++[(m,[])])[y]?=some fy→x<y→
   (CA ops ox oy || Dq fx fy)=true→Cv ops.toList x y:=by
  intro x y ox oy fx fy h1 h2 h3 h4 hxy hcf
  have m1:=G2 ops.toList _ 0 x ox fx h1 h3
  have m2:=G2 ops.toList _ 0 y oy fy h2 h4
  simp only[Mc,List.all_eq_true]at hpairs
  have:=hpairs _ m1 _ m2
  simp only[Nat.zero_add]at this
  have hb:Nat.blt x y=true:=by simpa using hxy
  rw[hb,hcf]at this
  simp only[Bool.not_true,Bool.false_or]at this
  exact bit _ _ this
 have hoL:ops.toList[i]?=some o:=by simpa using hi
 have flast:((es.map fun e=>(e.rd,e.wr.map (·.1)))++[(m,[])])[i]?=some (m,[]):=by
  rw[List.getElem?_append_right (by simp[hlen])]
  simp[hlen]
 have hz:∀k,Bl (Array.replicate ops.size false) k=false:=by intro k;simp only[Bl,Array.getD_eq_getD_getElem?,Array.getElem?_replicate];split<;>rfl
 refine Xn ops es (AH σ.slots) (AK σ.heap) σ.next Q hes (by omega) hback (fun x y ex ey hx hy hxy hcf=>pair x y _ _ _ _ (hes x ex hx) (hes y ey hy) (fget x ex hx) (fget y ey hy) hxy hcf) hlex
  (fun h=>by omega) (fun k hk1 hk2=>?_) (fun _ S fuel listed a w hah hno R=>?_) ops.size (Array.replicate ops.size false) a _ (by simp) ?_ (fun i j _ hj=>by rw[hz]at hj;cases hj) (fun k _=>hz k) ?_
 ·rw[hlen]at hk1 ⊢
  simp only[List.all_eq_true]at hbeh
  have:=hbeh k (by simpa using hk2)
  have hb:Nat.blt i k=true:=by simpa using hk1
  rw[hb]at this
  simp only[Bool.not_true,Bool.false_or]at this
  exact bit _ _ this
 ·rw[hlen]at hah hno ⊢
  have hlti:∀k e,es[k]?=some e→k<i:=fun k e he=>by rw[←hlen];exact (List.getElem?_eq_some_iff.1 he).1
  have hH:Bd S es 0 (AK σ.heap)=AK σ'.heap:=by
   rw[e4]
   funext x
   rw[←IY (S:=fun _=>true) es 0 (AK σ.heap) (fun _ _=>rfl)]
   refine Dd es 0 _ _ rfl (fun k e he hx=>?_)
   rw[Nat.zero_add]
   refine hah k ?_
   simp only[List.all_eq_true]at hw
   have:=hw k (by simpa using hlti k e he)
   rw[show (es.map fun e=>(e.rd,e.wr.map (·.1)))[k]?=some (e.rd,e.wr.map (·.1))by simp[he]]at this
   simp only[]at this
   split at this
   ·rename_i h0;rw[h0]at hx;simp at hx
   ·exact bit _ _ this
  have hs:∀t,Operand.tmp t∈o.op.operands.toList→CO S es 0 (AH σ.slots) t=AH σ'.slots t:=by
   intro t ht
   rw[e3]
   rw[←J6 (S:=fun _=>true) es 0 (AH σ.slots) (fun _ _=>rfl)]
   refine C5 es 0 _ _ rfl (fun k e he hd=>?_)
   rw[Nat.zero_add]
   have ht':t∈C0 ops o:=by simp[C0,DX ht]
   exact hah k (pair k i _ _ _ _ (hes k e he) hoL (fget k e he) flast (hlti k e he) (by simp[CA,FO (x:=t) (a:=e.o.dst.toList) (b:=C0 ops o) (by simp[hd]) ht']))
  have hDT:C.M.cl=true→CO S es 0 (AH σ.slots) DT=AH σ.slots DT:=by
   intro hcl
   have z:=congrFun (E7 (S:=fun _=>false) es 0 (AH σ.slots) (fun _ _=>rfl)) DT
   rw[←z]
   refine C5 es 0 _ _ rfl (fun k e he hd=>?_)
   have h3:=(Yw es 0 k _ _ e hlex he).2.1 DT hd
   have h4:=(C.hcl hcl).1
   exact absurd h3 (Nat.not_lt.2 h4)
  have hSi:∀j,S j=true→j<i:=fun j hj=>by
   rcases Nat.lt_or_ge j i with h | h
   ·exact h
   ·rw[hno j h]at hj;cases hj
  unfold wpOpIn
  rw[hi]
  simp only[]
  rw[if_pos (by simp[Region.wanted,hgd])]
  obtain⟨g,R⟩:=R
  rw[hH]at R
  refine PH R ho hc hs k1 k2 k3 k4 k5 k6 k7 k8 k9 (fun k hk=>⟨by omega,fun j hj=>by have:=hSi j hj;omega⟩) (fun g2 a' w' R2=>hP v0 _ _ _ a' w' k10 ⟨g2,?_⟩) _
  rw[Bw]
  have R3:=R2.AW (F':=fun n=>σ.next+32*ops.size≤n) (fun n hn=>⟨⟨by omega,fun j hj=>by have:=hSi j hj;omega⟩,by omega⟩)
  have hkeep:∀t,isDst ops t=false→CO S es 0 (AH σ.slots) t=AH σ.slots t:=by
   intro t ht
   have z:=congrFun (E7 (S:=fun _=>false) es 0 (AH σ.slots) (fun _ _=>rfl)) t
   rw[←z]
   refine C5 es 0 _ _ rfl (fun k e he hd=>?_)
   have hm:=List.mem_of_getElem? (hes k e he)
   have:isDst ops t=true:=QU.2 ⟨_,hm,by rw[hd];simp⟩
   rw[this]at ht
   cases ht
  refine {R3 with size:=R3.size,defers:=?_,slots:=fun t=>?_}
  ·have hd:=R3.defers
   rw[Ln]
   cases hcl:C.M.cl with
   | false=>rw[hcl]at hd;exact hd
   | true=>
    rw[hcl,hDT hcl]at hd
    cases isDst ops DT with
    | true=>exact fun f cs rows e=>by cases e
    | false=>exact hd
  ·rw[Ln]
   cases ht:isDst ops t with
   | true=>trivial
   | false=>rw[←hkeep t ht];exact R3.slots t
 ·have:(List.range ops.size).filter (fun k=>!Bl (Array.replicate ops.size false) k)=List.range ops.size:=by
   refine List.filter_eq_self.2 fun k hk=>?_
   rw[hz];rfl
  rw[this];simp
 ·rw[E7 es 0 _ (fun k _=>hz k),G1 es 0 _ (fun k _=>hz k)]
  obtain⟨g,R⟩:=R
  exact⟨g,R.drew.AW (fun n hn=>hn.1)⟩
end
def Cr (ti:Types) (M:AY) (nt:Nat) (ops:Array Oper) (σ:St) (K:St→Prop):Prop:=A4 ti M nt ops σ K∨WS M ti nt ops σ
theorem Ik {P:Program}{ti:Types}(hti:Ao P ti) (h1:BB ti) (hm:P.follows .mixedOrders=true):∀C:Cx,C.P=P→D9 C (Cr ti C.M C.nt):=fun C hC=>by
 have hti':Ao C.P ti:=by rw[hC];exact hti
 have hm':C.P.follows .mixedOrders=true:=by rw[hC];exact hm
 intro id ops σ K Q a w hQ hP hk R
 rcases hk with hk | hk
 ·exact wpIn_region_any hm' (TL hti' h1 ops σ K Q a w hQ hk R)
 ·exact wpIn_region_any hm' (Z5 hti' h1 ops σ Q a w hP hk R)
end Go.AM
namespace Go.AM
open Go Go.RowKit
inductive En where
 | ret (r:Jg)
 | pan (v:Value) (post new:List AB)
abbrev CB:=FuncId→List V1→List AB→Option En
def En.ok (P:Program) (I:Inv) (f:FuncId) (args:List V1) (pre:List AB):En→Prop
 | .ret r=>Bf P I f args pre r.res r.post r.new
 | .pan v post new=>Iu P I f args pre v post new
section
variable {γ:Type}{r:γ}
abbrev CE:=RF→List (Nat×AV)→List V1→List AB→Option (Jump×List AB×List AB)
def CE.ok (P:Program) (I:Inv) (Y:CE):Prop:=∀r sl args pre j post new,Y r sl args pre=some (j,post,new)→Gv P I r sl args pre fun j' p n=>j'=j∧p=post∧n=new
structure EnvZ (γ:Type) extends EnvO γ where
 fn:CB
 ab:Value→List (Nat×AV)→List (Id×AB)→Nat→Option γ
 df:Bool
 yl:CE
 kp:List Nat
 nf:Bool
structure EnvZ.ok (M:AY) (ti:Types) (E:EnvZ γ) (r:γ):Prop where
 env:E.toEnvO.ok M.P M.I ti
 fn:∀f args pre e,E.fn f args pre=some e→e.ok M.P M.I f args pre
 ab:∀v s h nx,E.ab v s h nx=some r→M.pn v s h nx
 df:E.df=true→M.cl=true
 yl:E.yl.ok M.P M.I
abbrev X4 (γ:Type):=B5→St→Option γ
noncomputable def SD (E:EnvZ γ) (n:FuncId) (args:List V1) (m:List Id) (dst:Option Tmp) (fresh:Nat) (σ:St) (K:St→Option γ):Option γ:=
 QR fresh fun fresh=>lst m fun m=>Aj (GI m)<| Ou (Zt (X3 m)) args fun as'=>Ff σ.heap (X3 m) m fun os'=>
   (match E.fn n as' os' with
    | some (.ret x)=>Aj (GJ os' x.post)<| Aj (Nat.ble x.new.length 31)<| kK (Ki m fresh) x.res fun v=>UE m fresh x.post x.new σ.heap fun h=>K ⟨BR σ.slots dst v,h,σ.next⟩
    | some (.pan v post new)=>Aj (GJ os' post)<| Aj (Nat.ble new.length 31)<| UE m fresh post new σ.heap fun h=>E.ab v σ.slots h (fresh+32)
    | none=>none)
theorem VV {M:AY}{ti:Types}{E:EnvZ γ}(hE:E.ok M ti r) {n:FuncId}{args:List V1}{m:List Id}{dst:Option Tmp}{fresh:Nat}{σ:St}{K:St→Option γ}(e:SD E n args m dst fresh σ K=some r):
    ∃(targs:List V1) (pre:List AB),args=targs.map (V1.Ar (Av m fresh))∧m.length=pre.length∧m.Nodup∧(∀(j:Nat) i o,m[j]?=some i→pre[j]?=some o→AK σ.heap i=some (o.Ar (Av m fresh)))∧
      ((∃x:Jg,Bf M.P M.I n targs pre x.res x.post x.new∧BI pre x.post∧x.new.length≤31∧K ⟨BR σ.slots dst (x.res.Ar (Av m fresh)),Be σ.heap (Iv m (Av m fresh) x.post++B4 fresh (Av m fresh) 0 x.new),σ.next⟩=some r)∨
       (∃v post new,Iu M.P M.I n targs pre v post new∧BI pre post∧new.length≤31∧M.pn v σ.slots (Be σ.heap (Iv m (Av m fresh) post++B4 fresh (Av m fresh) 0 new)) (fresh+32))):=by
  unfold SD at e
  rw[GH]at e
  have e:=IH e
  obtain⟨h3,e⟩:=AD e
  obtain⟨targs,hargs,e⟩:=Cu (Ja (Fg m fresh)) _ _ e
  obtain⟨pre,⟨g1,g2⟩,e⟩:=Cq (Fg m fresh) _ _ e
  refine⟨targs,pre,hargs,g1,DG h3,g2,?_⟩
  split at e
  · rename_i x hx
    obtain⟨h4,e⟩:=AD e
    obtain⟨h5,e⟩:=AD e
    exact .inl ⟨x,hE.fn _ _ _ _ hx,Di h4,Nat.le_of_ble_eq_true h5,Kl (VT (Eh m fresh) _ _ e)⟩
  · rename_i v post new hx
    obtain⟨h4,e⟩:=AD e
    obtain⟨h5,e⟩:=AD e
    exact .inr ⟨v,post,new,hE.fn _ _ _ _ hx,Di h4,Nat.le_of_ble_eq_true h5,hE.ab _ _ _ _ (Kl e)⟩
  · cases e
noncomputable def Z6 (E:EnvZ γ) (i:Id) (rf:Unit→RF) (sl:List (Nat×AV)) (xs:List V1) (m:List Id) (dst:Option Tmp) (fresh:Nat) (σ:St) (K:St→Option γ):Option γ:=
 QR fresh fun fresh=>lst (m++[i]) fun mi=>lst m fun m=>Aj (GI mi)<| Ou (Zt (X3 mi)) xs fun as'=>Ff σ.heap (X3 mi) m fun os'=>Ou (nH (X3 mi)) sl fun sl'=>
   (match E.yl (rf ()) sl' as' os' with
    | some (j,post,new)=>Aj (GJ os' post)<| Aj (Nat.ble new.length 31)<|
      K ⟨BR σ.slots dst (.v (.d (.bool j.isNone))),Be σ.heap (Iv (m++[i]) (Av (m++[i]) fresh) (post++[D8 j rf sl'])++B4 fresh (Av (m++[i]) fresh) 0 new),fresh⟩
    | none=>none)
theorem Z7 {M:AY}{ti:Types}{E:EnvZ γ}(hE:E.ok M ti r) {i:Id}{rf:Unit→RF}{sl:List (Nat×AV)}{xs:List V1}{m:List Id}{dst:Option Tmp}{fresh:Nat}{σ:St}{K:St→Option γ}{P:St→Prop}(hK:∀σ,K σ=some r→P σ)
  (e:Z6 E i rf sl xs m dst fresh σ K=some r):Uo M dst fresh ⟨σ.slots,σ.heap,fresh⟩ i rf sl xs P:=by
 unfold Z6 at e
 rw[GH]at e
 have e:=IH e
 have e:=IH e
 obtain⟨h3,e⟩:=AD e
 obtain⟨targs,hargs,e⟩:=Cu (Ja (Fg (m++[i]) fresh)) _ _ e
 obtain⟨pre,⟨g1,g2⟩,e⟩:=Cq (Fg (m++[i]) fresh) _ _ e
 obtain⟨sl',hsl,e⟩:=Cu (g:=fun x=>(x.1,x.2.Ar (Av (m++[i]) fresh))) (Zw (Fg (m++[i]) fresh)) _ _ e
 split at e
 ·rename_i j post new hy
  obtain⟨h4,e⟩:=AD e
  obtain⟨h5,e⟩:=AD e
  refine⟨m,targs,pre,sl',_,hE.yl _ _ _ _ _ _ _ hy,hargs,hsl,g1,DG h3,g2,?_⟩
  rintro j' post' new' ⟨rfl,rfl,rfl⟩
  exact⟨⟨Di h4,Nat.le_of_ble_eq_true h5⟩,hK _ e⟩
 ·cases e
def Z8 (i:Id):List Id→List Id
 | []=>[]
 | j::l=>(match Id.beq j i with
  | true=>Z8 i l
  | false=>j::Z8 i l)
noncomputable def mA (E:EnvZ γ) (i:Id) (xs:List V1) (dst:Option Tmp) (fresh:Nat) (σ:St) (K:St→Option γ):Option γ:=
 match AK σ.heap i with
 | some (.rnd rf sl)=>Z6 E i rf sl xs (Z8 i (Ep σ.heap 200 (Bt xs++WD sl) [])) dst fresh σ K
 | _=>none
def jR:AV→Option Id
 | .v (.c (.yl i))=>some i
 | _=>none
theorem Xo {x:AV}{i:Id}(h:jR x=some i):x= .v (.c (.yl i)):=by
 unfold jR at h
 split at h
 ·cases h;rfl
 ·cases h
noncomputable def SE (E:EnvZ γ) (ti:Types) (o:Oper) (c:Call) (f:Operand) (fresh:Nat) (σ:St) (K:St→Option γ):Option γ:=
 match ES (AP ti (AH σ.slots) 0 f)with
 | none=>(match jR (AP ti (AH σ.slots) 0 f)with
  | none=>none
  | some i=>(match GM (BM ti (AH σ.slots) c.args.toList c.argTypes.toList)with
   | none=>none
   | some xs=>mA E i xs o.dst fresh σ K))
 | some (n,as',bs)=>(match GN (BM ti (AH σ.slots) c.args.toList c.argTypes.toList)with
  | none=>none
  | some xs=>SD E n (as'++(xs++bs)) (Ep σ.heap 200 (Bt (as'++(xs++bs))) []) o.dst fresh σ K)
theorem VW {M:AY}{ti:Types}{E:EnvZ γ}(hE:E.ok M ti r) {o:Oper}{c:Call}{f:Operand}(ho:o.op= .call c) (hf:c.callee= .value f) {fresh:Nat}{σ:St}{K:St→Option γ}{P:St→Prop}(hK:∀σ,K σ=some r→P σ)
  (e:SE E ti o c f fresh σ K=some r):(CI M ti o fresh (AH σ.slots) (AK σ.heap) fun out=>P ⟨BR σ.slots o.dst out.val,Be σ.heap out.wr,σ.next⟩)∨(Pk M ti o fresh σ P∨Ye M ti o fresh σ):=by
 unfold SE at e
 split at e
 ·split at e
  ·cases e
  ·rename_i i hi
   split at e
   ·cases e
   ·rename_i xs hxs
    unfold mA at e
    split at e
    ·rename_i rf sl hr
     right;left
     unfold Pk
     rw[ho]
     simp only[]
     rw[hf]
     simp only[]
     refine⟨⟨σ.slots,σ.heap,fresh⟩,A8.refl _,rfl,?_⟩
     simp only[Xo hi]
     unfold withArgs
     rw[hxs]
     simp only[hr]
     exact Z7 hE hK e
    ·cases e
 ·rename_i n as' bs h1
  split at e
  ·cases e
  ·rename_i xs h2
   generalize Ep σ.heap 200 (Bt (as'++(xs++bs))) []=m at e
   obtain⟨targs,pre,k1,k2,k3,k4,⟨x,k5,k6,k7,k8⟩ | ⟨v,post,new,k5,k6,k7,k8⟩⟩:=VV hE e
   ·left
    unfold CI
    rw[ho]
    simp only[]
    rw[hf]
    refine .inr (.inl ⟨[],?_⟩)
    show Ab M ti o fresh (AH σ.slots) (AK σ.heap) _
    unfold Ab
    rw[ho]
    simp only[]
    rw[hf]
    refine H9 (n:=n) (xs1:=as') (bs:=bs) (w:=true) (xs:=xs) ?_ h2 ⟨m,targs,pre,x.res,x.post,x.new,k5,k1,k2,k3,k4,k6,k7,?_⟩
    ·unfold ES at h1
     split at h1
     ·rename_i h;rw[h];exact h1
     ·rename_i h;rw[h];exact h1
     ·cases h1
    ·exact hK _ (by simpa using k8)
   ·right;right
    unfold Ye
    rw[ho]
    simp only[]
    rw[hf]
    simp only[]
    unfold ES at h1
    split at h1
    ·rename_i h
     rw[h]
     cases h1
     exact⟨xs,.inr h2,m,targs,pre,v,post,new,k5,by simpa using k1,k2,k3,k4,k6,k7,k8⟩
    ·rename_i h
     rw[h]
     cases h1
     exact⟨xs,.inr h2,m,targs,pre,v,post,new,k5,by simpa using k1,k2,k3,k4,k6,k7,k8⟩
    ·cases h1
end
end Go.AM
namespace Go.AM
open Go Go.RowKit
def VX (BD:List Id) (cs:List FC) (i:Id):Option Id:=
 match BD,cs with
 | c::BD,x::cs=>(match Id.beq c i with
  | true=>(match x with
   | .p k=>some k
   | _=>none)
  | false=>VX BD cs i)
 | _,_=>none
theorem UF:∀{BD:List Id}{cs:List FC}{i k:Id},VX BD cs i=some k→∃j:Nat,BD[j]?=some i∧cs[j]?=some (.p k)
 | c::BD,x::cs,i,k,h=>by
  unfold VX at h
  split at h
  ·rename_i hb
   split at h
   ·rename_i k';cases h;exact⟨0,by simp[Id.beq_iff.1 hb],rfl⟩
   ·cases h
  ·obtain⟨j,h1,h2⟩:=UF h
   exact⟨j+1,by simpa using h1,by simpa using h2⟩
 | [],_,_,_,h=>by simp[VX]at h
 | _::_,[],_,_,h=>by simp[VX]at h
def HF (BD:List Id) (cs:List FC) (s:AN):List (Nat×AV)→List (Nat×AV)
 | []=>[]
 | (t,_)::l=>(match s t with
  | .v (.c (.ptr i 0))=>(match VX BD cs i with
   | some k=>(t,.v (.c (.fb k)))::HF BD cs s l
   | none=>HF BD cs s l)
  | _=>HF BD cs s l)
theorem AR.Wb {C:Cx}{F:Nat→Prop}{h:AE}{g:AL}{a:Act}{w:World}:∀{l:List (Nat×AV)}{sl:List (Nat×AV)},AR C F (AH sl) h g a w→
  (∀t v,(t,v)∈l→An w (Al (zone g h) C.X) g h v (a.tmps.getD t undef)∧∀f cs rows,v≠ .df f cs rows)→AR C F (AH (l++sl)) h g a w
 | [],sl,R,_=>R
 | (t,v)::l,sl,R,hl=>by
  have R1:=AR.Wb (l:=l) R fun t v hm=>hl t v (by simp[hm])
  have:=R1.Ls t v (hl t v (by simp)).1 (hl t v (by simp)).2
  rw[List.cons_append,Ai]
  exact this
theorem VY {σ:St}{t f:Nat}{BD:List Id}{cs:List FC}(ht:AH σ.slots t= .v (.c (.fn f BD))) (hn:nodupB BD=true) (hb:FQ (AK σ.heap) BD=some cs):
  A8 σ ⟨HF BD cs (AH σ.slots) σ.slots++(t,.v (.c (.fz f cs)))::σ.slots,Be σ.heap (Aa BD),σ.next⟩:=by
 rintro C a w ⟨g,R⟩
 refine⟨g,?_⟩
 have R1:=R.cloz ht (Ba.1 hn) hb
 rw[Bw]
 refine AR.Wb (by rw[Ai];exact R1) ?_
 have hz:An w (Al (zone g (Aq (AK σ.heap) (Aa BD))) C.X) g (Aq (AK σ.heap) (Aa BD)) (.v (.c (.fz f cs))) (a.tmps.getD t undef):=by
  have:=R1.slots t
  simpa [Bp] using this
 obtain⟨ps,h1,h2,h3⟩:=hz
 have h0:=R.slots t
 rw[ht]at h0
 have h0:a.tmps.getD t undef= .func (.func f) #[] (BD.map (fun i=>Bu (g i) 0)).toArray:=h0.1
 rw[h0]at h1
 simp only[Value.func.injEq,true_and]at h1
 have hps:ps=BD.map fun i=>Bu (g i) 0:=by
  have:=congrArg Array.toList h1
  simpa using this.symm
 have main:∀(l:List (Nat×AV)) t' v,(t',v)∈HF BD cs (AH σ.slots) l→∃i k,AH σ.slots t'= .v (.c (.ptr i 0))∧VX BD cs i=some k∧v= .v (.c (.fb k)):=by
  intro l
  induction l with
  | nil=>intro t' v hm;simp[HF]at hm
  | cons x l ih=>
   obtain⟨t0,v0⟩:=x
   intro t' v hm
   unfold HF at hm
   split at hm
   ·rename_i i hi
    split at hm
    ·rename_i k hk
     rcases List.mem_cons.1 hm with hm | hm
     ·cases hm;exact⟨i,k,hi,hk,rfl⟩
     ·exact ih t' v hm
    ·exact ih t' v hm
   ·exact ih t' v hm
 intro t' v hm
 obtain⟨i,k,e1,e2,rfl⟩:=main _ t' v hm
 refine⟨?_,fun f cs rows=>by simp⟩
 obtain⟨j,j1,j2⟩:=UF e2
 have hv:=R.slots t'
 rw[e1]at hv
 have hv:a.tmps.getD t' undef=Bu (g i) 0:=hv.2
 have:=h3 j (.p k) (Bu (g i) 0) j2 (by rw[hps,List.getElem?_map,j1];rfl)
 show X5 _ _ _ _ _
 rw[hv]
 exact this
theorem dX {σ:St}{f0 f:Nat}{cs0 cs:List FC}(h:AH σ.slots DT= .df f0 cs0 []):A8 σ ⟨(DT,.df f cs [])::σ.slots,σ.heap,σ.next⟩:=by
 rintro C a w ⟨g,R⟩
 refine⟨g,?_⟩
 refine {R with size:=R.size,defers:=?_,slots:=fun t=>?_}
 ·have hd:=R.defers
  rw[Ai]
  simp only[if_pos]
  cases hcl:C.M.cl with
  | false=>rw[hcl]at hd;exact hd
  | true=>
   rw[hcl]at hd
   have hd0:=(hd f0 cs0 [] h).1
   intro f' cs' rows' e
   cases e
   exact⟨hd0,fun k r d hr=>by simp at hr⟩
 ·rw[Ai]
  simp only[]
  split
  ·trivial
  ·exact R.slots t
theorem Km:∀(cs:List FC),fill cs []=cs
 | []=>rfl
 | .h::r=>by simp[fill,Km r]
 | .p i::r=>by simp[fill,Km r]
 | .d x::r=>by simp[fill,Km r]
theorem jS {M:AY}{ti:Types}{t fresh:Nat}{σ:St}{K:St→Prop}(hM:M.cl=true) {f:Nat}{BD:List Id}{cs:List FC}(ht:AH σ.slots t= .v (.c (.fn f BD))) (hne:t≠DT) (hn:nodupB BD=true)
  (hb:FQ (AK σ.heap) BD=some cs) (hd:AH σ.slots DT= .df 0 [] []) (hfb:AH (HF BD cs (AH σ.slots) σ.slots) DT= .u) (hft:AH (HF BD cs (AH σ.slots) σ.slots) t= .u)
  (hk:K ⟨(DT,.df f cs [.agg []])::(DT,.df f cs [])::(HF BD cs (AH σ.slots) σ.slots++(t,.v (.c (.fz f cs)))::σ.slots),Be σ.heap (Aa BD),fresh⟩):JL M ti (.tmp t) fresh σ K:=by
 have app:∀(l sl:List (Nat×AV)) (k:Nat),(∀v,(k,v)∈l→False)→AH (l++sl) k=AH sl k:=by
  intro l sl k
  induction l with
  | nil=>intro _;rfl
  | cons x l ih=>
   obtain⟨t0,v0⟩:=x
   intro hh
   rw[List.cons_append,Ai]
   simp only[]
   rw[if_neg (fun e=>hh v0 (by simp[e])),ih (fun v hv=>hh v (by simp[hv]))]
 have nomem:∀(k:Nat) (l:List (Nat×AV)),AH (HF BD cs (AH σ.slots) l) k= .u→∀v,(k,v)∈HF BD cs (AH σ.slots) l→False:=by
  intro k l
  induction l with
  | nil=>intro _ v hm;simp[HF]at hm
  | cons x l ih=>
   obtain⟨t0,v0⟩:=x
   intro hu v hm
   unfold HF at hm hu
   split at hm
   ·rename_i i hi
    split at hm
    ·rename_i k' hk'
     simp only[hi,hk']at hu
     rw[Ai]at hu
     simp only[]at hu
     by_cases e:k=t0
     ·rw[if_pos e]at hu;cases hu
     ·rw[if_neg e]at hu
      rcases List.mem_cons.1 hm with hm | hm
      ·cases hm;exact e rfl
      ·exact ih hu v hm
    ·rename_i hk'
     simp only[hi,hk']at hu
     exact ih hu v hm
   ·rename_i hno
    split at hu
    ·rename_i i hi;exact absurd hi (hno i)
    ·exact ih hu v hm
 refine (M.lock_iff _).2 ⟨⟨(DT,.df f cs [])::(HF BD cs (AH σ.slots) σ.slots++(t,.v (.c (.fz f cs)))::σ.slots),Be σ.heap (Aa BD),fresh⟩,?_,rfl,f,cs,[],.agg [],?_,?_,hM,?_⟩
 ·refine A8.trans (VY (σ:=⟨σ.slots,σ.heap,fresh⟩) ht hn hb) (dX (f0:=0) (cs0:=[]) ?_)
  show AH (HF BD cs (AH σ.slots) σ.slots++(t,.v (.c (.fz f cs)))::σ.slots) DT=_
  rw[app _ _ _ (nomem DT _ hfb),Ai]
  simp only[]
  rw[if_neg (fun e=>hne e.symm),hd]
 ·show AH _ t=_
  rw[Ai]
  simp only[]
  rw[if_neg hne,app _ _ _ (nomem t _ hft),Ai]
  simp[D.cells,Km]
 ·rw[Ai];simp
 ·exact hk
def Lo:Option Value→FrameMode
 | none=>.returning
 | some v=>.panicking [{v:=v,recovered:=false}]
def SF:Option Value→Value
 | none=>.nilIface
 | some v=>v
def UG (P:Program) (I:Inv) (f:FuncId) (p:Option Value) (args:List V1) (pre post new:List AB):Prop:=
 (∃fn c,P.funcs[f]?=some fn∧fn.body=some c∧(fn.name== "runtime.NumGoroutine")=false)∧
 ∀w X g (vals:Array Value),(∀b o,X b o→b<w.heap.size)→I.at w (Al (zone g (Ae pre)) X)→C9 w X g (Ae pre)→(∀n,g (.loc n)=undef)→vals.size=args.length→
  (∀(j:Nat) x v,args[j]?=some x→vals[j]?=some v→Ag w (Al (zone g (Ae pre)) X) g (Ae pre) x v)→
  CallsDIn Fence.wide 0 P f vals (Lo p) w fun e u' w'=>settle u'= .returning∧∃v g',e= .returned v∧Bq w X g pre .u post new v w' g'
theorem UG.intro {P:Program}{I:Inv}{ti:Types}(dr:AY→Nat→LB) (hti:Ao P ti) (h1:BB ti) (hdr:∀C:Cx,C.P=P→D9 C (dr C.M C.nt)) {f:FuncId}{fn:Func}{id:Nat}{o:Oper}{rest:Code}{c:Call}{d:Nat}(p:Option Value) (hf:P.funcs[f]?=some fn) (hb:fn.body=some (.seq (.region id #[o] false) rest))
  (hname:(fn.name== "runtime.NumGoroutine")=false) (hres:fn.results=#[]) (ho:o.op= .call c) (hc:c.callee= .builtin .recover) (hg:o.guard=none) (hod:o.dst=some d) (hd:d<fn.ntmps) (hv:(SF p).oneCell'=true) {args:List V1} {pre post new:List AB} (hargs:args.length≤fn.ntmps) (hnt:fn.ntmps≤DT) (hnr:Cc rest=true)
  (hx:∀M:AY,M.P=P→M.I=I→M.cl=true→exec M ti fn.ntmps (dr M fn.ntmps) rest ⟨(d,.v (.c (.kv (SF p))))::(DT,.df 0 [] [])::slotsOf args 0,A9 pre 0,0⟩ fun e σ=>(∀id,e≠ .exit id)∧AH σ.slots DT= .df 0 [] []∧Xm σ.heap σ.next post new):UG P I f p args pre post new:=by
 refine⟨⟨fn,_,hf,hb,hname⟩,fun w X g vals hX hI RH hg0 hsz hargs'=>?_⟩
 let C:Cx:={M:=AY.of P I true,nt:=fn.ntmps,w0:=w,Z0:=zone g (Ae pre),X:=X,g0:=g,hinv:=hI,ro:=none,D:=[],hro:=fun l hl=>(by cases hl),hD:=fun r hr=>(by cases hr),hDn:=List.nodup_nil,hcl:=fun _=>⟨hnt,rfl⟩}
 have R0:BX C ⟨(DT,.df 0 [] [])::slotsOf args 0,A9 pre 0,0⟩ {tmps:=vals++Array.replicate (fn.ntmps - vals.size) undef,defers:=[]} w:=by
  refine EA (P:=P) (by simp[C];omega) ?_ (fun t=>?_) RH rfl rfl (fun _ _ h=>h) hX hg0
  ·show DH _ _ _ true _ _ _
   rw[Ai]
   simp only[if_pos]
   intro f' cs' rows' e
   cases e
   exact⟨rfl,fun k r d hr=>by simp at hr⟩
  ·rw[Ai]
   simp only[]
   split
   ·trivial
   rcases De args 0 t with h | ⟨x,_,h2,h3⟩
   ·rw[h];trivial
   ·rw[h3]
    simp only[Nat.sub_zero]at h2
    have hlt:t<vals.size:=by rw[hsz];exact (List.getElem?_eq_some_iff.1 h2).1
    have:(vals++Array.replicate (fn.ntmps - vals.size) undef).getD t undef=vals[t]:=by
     simp[Array.getElem?_append,hlt]
    show Ag w _ g _ x ((vals++Array.replicate (fn.ntmps - vals.size) undef).getD t undef)
    rw[this]
    exact hargs' t x _ h2 (by simp[hlt])
 refine callsDIn_of_wpSIn (n:=0) hf hb trivial fun c₀ cs hu=>?_
 have key:∀(u':FrameMode),settle u'= .returning→rest.wpSIn Fence.wide 0 P (bodyPostS P fn c₀ cs fun e u' w'=>settle u'= .returning∧∃v g',e= .returned v∧Bq w X g pre .u post new v w' g')
   (({tmps:=vals++Array.replicate (fn.ntmps - vals.size) undef,defers:=[]}:Act).put (some d) (SF p)) ({c₀ with mode:=u'}::cs) w:=by
  intro u' hu'
  obtain⟨g0,R1⟩:=R0
  have R2:BX C ⟨(d,.v (.c (.kv (SF p))))::(DT,.df 0 [] [])::slotsOf args 0,A9 pre 0,0⟩ (({tmps:=vals++Array.replicate (fn.ntmps - vals.size) undef,defers:=[]}:Act).put (some d) (SF p)) w:=by
   refine⟨g0,?_⟩
   rw[Ai]
   have hdd:∀d',some d=some d'→d'<C.nt:=fun d' e=>by cases e;exact hd
   exact R1.put hdd (v:=.v (.c (.kv (SF p)))) ⟨rfl,hv⟩
  refine wpSIn_of_wpIn rfl (wpIn_mono (BS (M:=AY.of P I true) (ro:=none) hti h1 (fun C hC hn=>by
   have:=hdr C (by show C.M.P=P;rw[hC];rfl)
   rw[hC,hn]at this
   exact this) rest _ _ C _ w rfl rfl rfl (fun _=>hnr) (hx (AY.of P I true) rfl rfl rfl) R2) ?_)
  have fin:∀(C':Cx) (σ:St) (a':Act) (w':World),DV C C'→AH σ.slots DT= .df 0 [] []→Xm σ.heap σ.next post new→BX C' σ a' w'→
    a'.defers=[]∧∃u2,({c₀ with mode:=u'}:Frame)::cs={c₀ with mode:=u2}::cs∧∃v,(results fn a'.tmps).run P w'= .ok v w'∧(settle u2= .returning∧∃v' g',Ending.returned v= .returned v'∧Bq w X g pre .u post new v' w' g'):=by
   rintro C' σ a' w' hle hdt ⟨nm,hnd,hpost,hnewo,hhand⟩ ⟨g1,R⟩
   have hd:=R.defers
   rw[hle.M]at hd
   refine⟨by simpa using (hd 0 [] [] hdt).1,u',rfl,.tuple #[],(by have:=Hk (C:=C) (a:=a') (w:=w') (fn:=fn) (vs:=[]) (by rw[hres];rfl);simp at this;exact this),hu',_,fun i=>g1 (CY nm σ.next i),rfl,?_⟩
   obtain⟨f1,f2,f3,f4⟩:=finish (σ:=σ) (X:=X) R (fun b o hx=>hle.X b o hx) (Ba.1 hnd) hpost hnewo hhand
   refine⟨f1,trivial,BZ.then hle.frame R.frame (fun b o hz=>hle.Z0 b o hz),fun j=>(hle.ext j).trans (R.ext j),fun i ob b o hi hb=>?_,f3⟩
   obtain⟨j,ob',hj,hz⟩:=f2 i ob b o hi hb
   rcases R.within j ob' b o hj hz with hz | hz
   ·exact hle.Z0 b o hz
   ·exact .inr (Nat.le_trans hle.frame.size hz)
  intro e a' w' hq
  cases e with
  | normal=>obtain⟨C',hle,σ,⟨_,h2,h3⟩,hr⟩:=hq;exact fin C' σ a' w' hle h2 h3 hr
  | ret=>obtain⟨C',hle,σ,⟨_,h2,h3⟩,hr⟩:=hq;exact fin C' σ a' w' hle h2 h3 hr
  | exit id=>obtain⟨C',hle,σ,⟨h1,_,_⟩,hr⟩:=hq;exact absurd rfl (h1 id)
  | goto l=>exact hq.elim
  | panic ch=>obtain⟨C',hle,v0,s,h,nx,hpn,_⟩:=hq;rw[hle.M]at hpn;exact hpn.elim
  | outgrown=>exact hq.elim
 refine wpSIn_seq (wpSIn_region ?_)
 show wpOpsSIn _ _ _ _ _ [0] _ _ _
 unfold wpOpsSIn
 simp only[List.getElem?_toArray,List.getElem?_cons_zero]
 have hrun:∀a:Act,(execOp a.eval o).run P w= .ok .recover w:=fun a=>by simp[execOp,ho,hc,resolve,invoke,builtin]
 refine⟨fun _ _=>trivial,?_⟩
 rw[if_pos (by simp[Region.wanted,hg]),hrun]
 simp only[hod]
 cases p with
 | none=>
  have:recoverD (c₀::cs)=none:=by simp only[recoverD,hu,Lo]
  rw[this]
  have k:=key .returning rfl
  have e:({c₀ with mode:=.returning}:Frame)=c₀:=by have:c₀.mode= .returning:=hu;rw[←this]
  rw[e]at k
  exact k
 | some v=>
  have:recoverD (c₀::cs)=some (v,{c₀ with mode:=.panicking [{v,recovered:=true}]}::cs):=by
   simp only[recoverD,hu,Lo]
  rw[this]
  exact key _ rfl
def fU (P:Program) (I:Inv) (ti:Types) (rs:List ResultVar) (Q:AV→List AB→List AB→Prop) (p:Option Value) (σ:St):Prop:=
 ∃(f:Nat) (cs:List FC) (r:D) (m:List Id) (targs:List V1) (pre post new:List AB),AH σ.slots DT= .df f cs [r]∧UG P I f p targs pre post new∧(fill cs r.cells).map O0=targs.map (V1.Ar (Av m σ.next))∧m.length=pre.length∧m.Nodup∧
  Ni (AK σ.heap) (Av m σ.next) m pre∧BI pre post∧new.length≤31∧∃res p' n,Q res p' n∧DZ ti rs ⟨(DT,.df f cs [])::σ.slots,Be σ.heap (Iv m (Av m σ.next) post++B4 σ.next (Av m σ.next) 0 new),σ.next+32⟩ res p' n
theorem Kn {P:Program}{I:Inv}{ti:Types}{fn:Func}{Q:AV→List AB→List AB→Prop}{w:World}{X:Ad}{g:AL}{pre:List AB}{C:Cx}(hti:Ao P ti) (h1:BB ti) (hMP:C.M.P=P) (hMI:C.M.I=I) (hMc:C.M.cl=true)
  (hw0:BZ (zone g (Ae pre)) w C.w0) (hX:∀b o,X b o→C.X b o) (hZ:∀b o,C.Z0 b o→zone g (Ae pre) b o∨w.heap.size≤b) (hg:∀j,CQ (g (.ext j)) (C.g0 (.ext j))) (p:Option Value) (σ:St) (a:Act) (w1:World) (tmps:Array Value)
  (hk:fU P I ti fn.results.toList Q p σ) (ht:a.tmps=tmps) (R0:BX C σ a w1):
  LeavesInM Fence.wide 0 P fn tmps (fun e w'=>∃v g' res post new,Q res post new∧e= .returned v∧Bq w X g pre res post new v w' g') a.defers (Lo p) w1:=by
 subst hMI
 obtain⟨f,cs,r,m,targs,pre',post,new,hdt,htrip,hargs,hlen,hnd,hpre,hkd,hnew,res',p',n',hQ,hfin⟩:=hk
 obtain⟨g1,R1⟩:=R0
 have hcl:C.M.cl=true:=hMc
 have hd:=R1.defers
 rw[hcl]at hd
 obtain⟨hl,hds⟩:=hd f cs [r] hdt
 cases hda:a.defers with
 | nil=>rw[hda]at hl;simp at hl
 | cons d ds=>
  rw[hda]at hl hds
  obtain⟨ps,rfl,hclo⟩:=hds 0 r d rfl rfl
  obtain⟨hpsz,hcap⟩:=NA (h:=AK σ.heap) hclo
  have hP:C.P=P:=hMP
  obtain⟨⟨fnd,body,hfn,hb,hname⟩,htrip⟩:=htrip
  have hn':¬fnd.name= "runtime.NumGoroutine" :=by simpa using hname
  refine⟨by cases p<;>simp[Lo],.inr ⟨(fun h=>by cases h),.func f,ps,f,ps,rfl,?_,fun _ _=>trivial,?_⟩⟩
  ·simp[invoke,callFunc,hfn,hb,hn']
  have core:=DC (C:=C) (Qp:=fun r p q=>r= .u∧p=post∧q=new) (Run:=fun pp=>CallsDIn Fence.wide 0 P f ps (Lo p) w1 fun e u' w'=>settle u'= .returning∧pp e w') (vals:=ps) (dst:=none) (Q:=fun _ _ _=>False) (a:=a) R1 (fun hpq hp=>CallsDIn.mono hp fun e u' w' q=>⟨q.1,hpq _ _ q.2⟩)
   (fun X' g' _ k1 k2 k3 k4 k6=>CallsDIn.mono (htrip w1 X' g' ps k1 k2 k3 k4 (by have:=congrArg List.length hargs;simp at this;omega) k6) fun e u' w' q=>⟨q.1,by
    obtain⟨v,g2,h1,h2⟩:=q.2
    exact⟨v,g2,.u,post,new,⟨rfl,rfl,rfl⟩,h1,h2⟩⟩) hlen hnd hpre (by rintro _ _ _ ⟨rfl,rfl,rfl⟩;exact⟨hkd,hnew⟩) (fun k _=>by show σ.next≤_;omega) (fun d hd=>by cases hd) (targs:=targs) (by rw[←hargs];exact hcap)
  refine CallsDIn.mono core ?_
  rintro e u' w2 ⟨hset,he⟩
  cases e with
  | panicked ch=>exact he.elim
  | outgrown=>exact absurd he (by simp[LetsOut])
  | returned v=>
   obtain⟨res,post0,new0,⟨rfl,rfl,rfl⟩,g2,_,R2⟩:=he
   have R3:BX C ⟨(DT,.df f cs [])::σ.slots,Be σ.heap (Iv m (Av m σ.next) post0++B4 σ.next (Av m σ.next) 0 new0),σ.next+32⟩ {tmps:=a.tmps,defers:=ds} w2:=by
    refine⟨g2,?_⟩
    have hdf:=R2.defers
    rw[hcl]at hdf
    obtain⟨q1,q2⟩:=hdf f cs [r] (by simpa [Bp] using hdt)
    have hda':(a.put none v).defers=⟨.fn (.func f) ps,#[]⟩::ds:=hda
    rw[hda']at q1 q2
    rw[Bw]
    refine {R2.AW (F':=fun n=>σ.next+32≤n) (fun n hn=>⟨by omega,by omega⟩)with size:=R2.size,defers:=?_,slots:=fun t=>?_}
    ·rw[hcl]
     intro f' cs' rows' e
     rw[Ai]at e
     simp only[Bp]at e
     cases e
     exact⟨by simpa using q1,fun k y d hy hd=>by simp at hy⟩
    ·rw[Ai]
     simp only[Bp]
     split
     ·trivial
     ·exact R2.slots t
   show LeavesInM Fence.wide 0 P fn tmps _ ds (settle u') w2
   rw[hset]
   exact Fz (P:=P) (I:=C.M.I) (f:=f) (cs:=cs) (fn:=fn) hti h1 hMP hMc hw0 hX hZ hg [] _ {tmps:=a.tmps,defers:=ds} w2 tmps ⟨_,A8.refl _,res',p',n',hQ,hfin⟩ (by rw[Ai];simp) ht R3
theorem Bk.kC {P:Program}{I:Inv}{ti:Types}(dr:AY→Nat→LB) (hti:Ao P ti) (h1:BB ti) (hdr:∀C:Cx,C.P=P→D9 C (dr C.M C.nt)) {f:FuncId}{fn:Func}{c:Code}(hf:P.funcs[f]?=some fn) (hb:fn.body=some c)
  (hname:(fn.name== "runtime.NumGoroutine")=false) {args:List V1} {pre:List AB} {Q:AV→List AB→List AB→Prop} (hargs:args.length≤fn.ntmps) (hnt:fn.ntmps≤DT) (hnr:Cc c=true)
  (hx:∀M:AY,M.P=P→M.I=I→M.cl=true→(∀v s h nx,fU P I ti fn.results.toList Q (some v) ⟨s,h,nx⟩→M.pn v s h nx)→exec M ti fn.ntmps (dr M fn.ntmps) c ⟨(DT,.df 0 [] [])::slotsOf args 0,A9 pre 0,0⟩ fun e σ=>(∀id,e≠ .exit id)∧
   ((AH σ.slots DT= .df 0 [] []∧∃res post new,Q res post new∧DZ ti fn.results.toList σ res post new)∨fU P I ti fn.results.toList Q none σ)):Bk P I f args pre Q:=by
 refine⟨⟨fn,c,hf,hb,hname⟩,fun w X g vals hX hI RH hg hsz hargs'=>?_⟩
 let pn:Value→List (Nat×AV)→List (Id×AB)→Nat→Prop:=fun v s h nx=>fU P I ti fn.results.toList Q (some v) ⟨s,h,nx⟩
 let C:Cx:={M:=AY.of P I true pn,nt:=fn.ntmps,w0:=w,Z0:=zone g (Ae pre),X:=X,g0:=g,hinv:=hI,ro:=none,D:=[],hro:=fun l hl=>(by cases hl),hD:=fun r hr=>(by cases hr),hDn:=List.nodup_nil,hcl:=fun _=>⟨hnt,rfl⟩}
 have R0:BX C ⟨(DT,.df 0 [] [])::slotsOf args 0,A9 pre 0,0⟩ {tmps:=vals++Array.replicate (fn.ntmps - vals.size) undef,defers:=[]} w:=by
  refine EA (P:=P) (by simp[C];omega) ?_ (fun t=>?_) RH rfl rfl (fun _ _ h=>h) hX hg
  ·show DH _ _ _ true _ _ _
   rw[Ai]
   simp only[if_pos]
   intro f' cs' rows' e
   cases e
   exact⟨rfl,fun k r d hr=>by simp at hr⟩
  ·rw[Ai]
   simp only[]
   split
   ·trivial
   rcases De args 0 t with h | ⟨x,_,h2,h3⟩
   ·rw[h];trivial
   ·rw[h3]
    simp only[Nat.sub_zero]at h2
    have hlt:t<vals.size:=by rw[hsz];exact (List.getElem?_eq_some_iff.1 h2).1
    have:(vals++Array.replicate (fn.ntmps - vals.size) undef).getD t undef=vals[t]:=by
     simp[Array.getElem?_append,hlt]
    show Ag w _ g _ x ((vals++Array.replicate (fn.ntmps - vals.size) undef).getD t undef)
    rw[this]
    exact hargs' t x _ h2 (by simp[hlt])
 refine callsIn_wide.1 (callsIn_of_wp_marks (n:=0) hf hb trivial (wpIn_mono (BS (M:=AY.of P I true pn) (ro:=none) hti h1 (fun C hC hn=>by
  have:=hdr C (by show C.M.P=P;rw[hC];rfl)
  rw[hC,hn]at this
  exact this) c _ _ C _ w rfl rfl rfl (fun _=>hnr) (hx (AY.of P I true pn) rfl rfl rfl fun v s h nx k=>k) R0) ?_))
 have fin:∀(C':Cx) (σ:St) (a':Act) (w':World),DV C C'→((AH σ.slots DT= .df 0 [] []∧∃res post new,Q res post new∧DZ ti fn.results.toList σ res post new)∨fU P I ti fn.results.toList Q none σ)→BX C' σ a' w'→
   LeavesInM Fence.wide 0 P fn a'.tmps (fun e w'=>∃v g' res post new,Q res post new∧e= .returned v∧Bq w X g pre res post new v w' g') a'.defers .returning w':=by
  rintro C' σ a' w' hle (⟨hdt,res,post,new,hq,hfin⟩ | hlv) R
  ·exact Fz (P:=P) (I:=I) (f:=0) (cs:=[]) hti h1 (by rw[hle.M];rfl) (by rw[hle.M];rfl) hle.frame (fun b o hx=>hle.X b o hx) hle.Z0 hle.ext [] σ a' w' _ ⟨σ,A8.refl _,res,post,new,hq,hfin⟩ hdt rfl R
  ·exact Kn (P:=P) (I:=I) hti h1 (by rw[hle.M];rfl) (by rw[hle.M];rfl) (by rw[hle.M];rfl) hle.frame (fun b o hx=>hle.X b o hx) hle.Z0 hle.ext none σ a' w' _ hlv rfl R
 intro e a' w' hq
 cases e with
 | normal=>obtain⟨C',hle,σ,hf',hr⟩:=hq;exact fin C' σ a' w' hle hf'.2 hr
 | ret=>obtain⟨C',hle,σ,hf',hr⟩:=hq;exact fin C' σ a' w' hle hf'.2 hr
 | exit id=>obtain⟨C',hle,σ,hf',hr⟩:=hq;exact absurd rfl (hf'.1 id)
 | goto l=>exact hq.elim
 | outgrown=>exact hq.elim
 | panic ch=>
  obtain⟨C',hle,v,s,h,nx,hpn,rfl,R⟩:=hq
  rw[hle.M]at hpn
  exact Kn (P:=P) (I:=I) hti h1 (by rw[hle.M];rfl) (by rw[hle.M];rfl) (by rw[hle.M];rfl) hle.frame (fun b o hx=>hle.X b o hx) hle.Z0 hle.ext (some v) ⟨s,h,nx⟩ a' w' _ hpn rfl R
end Go.AM
namespace Go.AM
open Go Go.RowKit
def PI:AV→Bool
 | .df f cs rows=>Nat.beq f 0&&(match cs,rows with
  | [],[]=>true
  | _,_=>false)
 | _=>false
theorem HG {x:AV}(h:PI x=true):x= .df 0 [] []:=by
 unfold PI at h
 split at h
 ·rw[Bool.and_eq_true]at h
  obtain⟨h1,h2⟩:=h
  split at h2
  ·rw[Nat.eq_of_beq_eq_true h1]
  ·cases h2
 ·cases h
section
variable {γ:Type}{r:γ}
def DQ (E:EnvZ γ) (ti:Types) (o:Oper) (fresh:Nat) (σ:St) (K:St→Option γ):Option γ:=
 match Ir ti o (AH σ.slots) (AK σ.heap)with
 | some true=>DN E.toEnvO ti o fresh (AH σ.slots) (AK σ.heap) .e fun _ out=>WO E.nf σ o.dst out.val out.wr fresh K
 | _=>DN E.toEnvO ti o fresh (AH σ.slots) (AK σ.heap) .e fun _ out=>WO E.nf σ o.dst out.val out.wr σ.next K
theorem VZ (E:EnvZ γ) (ti:Types) (o:Oper) (fresh:Nat) (σ:St) (K:St→Option γ):DQ E ti o fresh σ K=JV E.toEnvO ti o fresh σ .e fun _ σ=>K σ:=by
 unfold DQ JV
 simp only[Dx]
 cases Ir ti o (AH σ.slots) (AK σ.heap)with
 | none=>rfl
 | some b=>cases b<;>rfl
noncomputable def CC (E:EnvZ γ) (ti:Types) (nt:Nat) (o:Oper) (fresh:Nat) (σ:St) (K:St→Option γ):Option γ:=
 Aj (Ct o)<| Aj (GB nt o.dst)<| (match DW ti o (AH σ.slots) (AK σ.heap)with
  | some (e,rows)=>Aj (Jz ti o)<| (match rows with
   | []=>none
   | _::_=>K ⟨BR σ.slots o.dst (.v (.d (.bool (BQ e)))),σ.heap,σ.next⟩)
  | none=>(match o.op with
   | .panic x=>(match AP ti (AH σ.slots) 0 x with
    | .v (.c (.kv (.iface t u)))=>E.ab (.iface t u) σ.slots σ.heap fresh
    | _=>none)
   | .call c=>(match c.callee with
    | .value f=>SE E ti o c f fresh σ K
    | _=>DQ E ti o fresh σ K)
   | _=>DQ E ti o fresh σ K))
theorem Va {M:AY}{ti:Types}{E:EnvZ γ}(hE:E.ok M ti r) {nt:Nat}{o:Oper}{fresh:Nat}{σ:St}{K:St→Option γ}{P:St→Prop}(hK:∀σ,K σ=some r→P σ) (e:CC E ti nt o fresh σ K=some r):FL M ti nt o fresh σ P:=by
 unfold CC at e
 simp only[VZ]at e
 obtain⟨h1,e⟩:=AD e
 obtain⟨h2,e⟩:=AD e
 unfold FL
 refine EI h1 (Cw h2 ?_)
 split at e
 ·rename_i b rows hn
  rw[hn]
  obtain⟨h3,e⟩:=AD e
  split at e
  ·cases e
  ·exact AA.2 ⟨h3,fun _=>hK _ e,fun hr=>by cases hr⟩
 ·rename_i hn
  rw[hn]
  simp only[]
  split at e
  ·rename_i x ho
   have hv:Bc o=true:=by unfold Bc;rw[ho]
   rw[hv]
   refine (M.lock_iff _).2 (.inr (.inr ?_))
   unfold Ye
   rw[ho]
   simp only[]
   split at e
   ·rename_i t u hx;rw[hx];exact hE.ab _ _ _ _ e
   ·cases e
  ·rename_i c ho
   split at e
   ·rename_i f hf
    have hv:Bc o=true:=by unfold Bc;rw[ho];simp only[];rw[hf]
    rw[hv]
    exact (M.lock_iff _).2 (VW hE ho hf hK e)
   ·rename_i hf
    have hv:Bc o=false:=by
     unfold Bc
     rw[ho]
     simp only[]
    rw[hv]
    exact Ie hE.env (fun _ σ e=>hK σ e) e
  ·rename_i hp ho
   have hv:Bc o=false:=by
    unfold Bc
    split
    ·rename_i c hc;exact absurd hc (ho c)
    ·rename_i x hx;exact absurd hx (hp x)
    ·rfl
   rw[hv]
   exact Ie hE.env (fun _ σ e=>hK σ e) e
noncomputable def WT (sl:List (Nat×AV)) (t:Nat):AV:=List.rec (motive:=fun _=>AV) .u (fun x _ ih=>Bool.rec (motive:=fun _=>AV) ih x.2 (Nat.beq x.1 t)) sl
theorem UH:∀(sl:List (Nat×AV)) (t:Nat),WT sl t=AH sl t
 | [],t=>rfl
 | (k,v)::sl,t=>by
  have e:WT ((k,v)::sl) t=Bool.rec (motive:=fun _=>AV) (WT sl t) v (Nat.beq k t):=rfl
  rw[e,UH sl t]
  show _=(match Nat.beq k t with | true=>v | false=>AH sl t)
  cases Nat.beq k t<;>rfl
noncomputable def MU (ti:Types) (sl:List (Nat×AV)) (t:TypeId) (x:Operand):AV:=match x with
 | .tmp n=>WT sl n
 | .const v=>QZ ti t v
 | .func f=>.v (.c (.fn f []))
 | .global _=>.u
theorem HH (ti:Types) (sl:List (Nat×AV)) (t:TypeId) (x:Operand):MU ti sl t x=AP ti (AH sl) t x:=by
 cases x<;>simp only[MU,AP,UH]
def pC (v:AV) (k:AV→Option γ):Option γ:=match v with
 | .v x=>(match x with
  | .d y=>k (.v (.d y))
  | .c y=>k (.v (.c y))
  | .agg l=>k (.v (.agg l)))
 | v=>k v
theorem jT (v:AV) (k:AV→Option γ):pC v k=k v:=by
 cases v with
 | v x=>cases x<;>rfl
 | _=>rfl
def Vb (b:Bool) (σ:St) (dst:Option Tmp) (v:AV) (K:St→Option γ):Option γ:=match b with
 | true=>pC v fun v=>K ⟨BR σ.slots dst v,σ.heap,σ.next⟩
 | false=>K ⟨BR σ.slots dst v,σ.heap,σ.next⟩
theorem M1 (b:Bool) (σ:St) (dst:Option Tmp) (v:AV) (K:St→Option γ):Vb b σ dst v K=K ⟨BR σ.slots dst v,σ.heap,σ.next⟩:=by
 cases b
 ·rfl
 ·simp only[Vb,jT]
def Z9 (b:Bool) (σ:St) (dst:Option Tmp) (v:AV) (K:St→Option γ):Option γ:=match b with
 | true=>kJ v fun v=>K ⟨BR σ.slots dst v,σ.heap,σ.next⟩
 | false=>K ⟨BR σ.slots dst v,σ.heap,σ.next⟩
theorem SG (b:Bool) (σ:St) (dst:Option Tmp) (v:AV) (K:St→Option γ):Z9 b σ dst v K=K ⟨BR σ.slots dst v,σ.heap,σ.next⟩:=by
 cases b
 ·rfl
 ·simp only[Z9,R8]
noncomputable def SH (E:EnvZ γ) (ti:Types) (nt:Nat) (o:Oper) (fresh:Nat) (σ:St) (K:St→Option γ):Option γ:=
 match o.op with
 | .move x=>Aj (GB nt o.dst) (Vb E.nf σ o.dst (MU ti σ.slots o.type x) K)
 | .assign x=>Aj (GB nt o.dst) (Vb E.nf σ o.dst (MU ti σ.slots o.type x) K)
 | .pick c a b=>(match MU ti σ.slots 0 c with
  | .v (.d (.bool true))=>Aj (GB nt o.dst) (Vb E.nf σ o.dst (MU ti σ.slots o.type a) K)
  | .v (.d (.bool false))=>Aj (GB nt o.dst) (Vb E.nf σ o.dst (MU ti σ.slots o.type b) K)
  | _=>CC E ti nt o fresh σ K)
 | .binOp op t x y _=>(match MU ti σ.slots t x,MU ti σ.slots t y with
  | .v (.d (.int q a)),.v (.d (.int q' b))=>Aj (GB nt o.dst) (Aj (decide (q=q')) (RN op q a b .e fun _ d=>Z9 E.nf σ o.dst (.v (.d d)) K))
  | _,_=>CC E ti nt o fresh σ K)
 | .load t x=>(match MU ti σ.slots 0 x with
  | .v (.c (.ptr id q))=>Xk σ.heap id none fun ob=>(match ob with
   | .cells cs=>Aj (GB nt o.dst) (CZ ti t fun i=>Aj (Nat.ble (q+i.size) cs.length) (Z9 E.nf σ o.dst (.v (V1.AZ (AU i.desc) ((cs.drop q).take i.size))) K))
   | _=>CC E ti nt o fresh σ K)
  | _=>CC E ti nt o fresh σ K)
 | .fieldAddr t x f=>(match MU ti σ.slots 0 x with
  | .v (.c (.ptr id q))=>Aj (GB nt o.dst) (CZ ti t fun i=>(match i.desc with
   | .struct fs=>(match fs[f]? with
    | some fd=>CZ ti fd.type fun j=>Aj (Nat.blt 0 j.size) (Z9 E.nf σ o.dst (.v (.c (.ptr id (q+fd.offset)))) K)
    | none=>none)
   | _=>none))
  | _=>CC E ti nt o fresh σ K)
 | .nilCheck x=>(match MU ti σ.slots 0 x with
  | .v (.c (.ptr id q))=>Aj (GB nt o.dst) (Vb E.nf σ o.dst (.v (.c (.ptr id q))) K)
  | _=>CC E ti nt o fresh σ K)
 | _=>CC E ti nt o fresh σ K
theorem SI {E:EnvZ γ}{ti:Types}{nt:Nat}{o:Oper}{fresh:Nat}{σ:St}{K:St→Option γ}(e:SH E ti nt o fresh σ K=some r):CC E ti nt o fresh σ K=some r:=by
 unfold SH at e
 split at e
 ·rename_i x ho
  simp only[M1,HH]at e
  obtain⟨h1,e⟩:=AD e
  simp only[CC,ho,Ct,DW,DQ,Ir,DN,Dx,h1,Aj]
  exact e
 ·rename_i x ho
  simp only[M1,HH]at e
  obtain⟨h1,e⟩:=AD e
  simp only[CC,ho,Ct,DW,DQ,Ir,DN,Dx,h1,Aj]
  exact e
 ·rename_i c a b ho
  simp only[M1,HH]at e
  split at e
  ·rename_i hc
   obtain⟨h1,e⟩:=AD e
   simp only[CC,ho,Ct,DW,DQ,Ir,DN,Dx,h1,Aj,hc,V6]
   exact e
  ·rename_i hc
   obtain⟨h1,e⟩:=AD e
   simp only[CC,ho,Ct,DW,DQ,Ir,DN,Dx,h1,Aj,hc,V6]
   exact e
  ·exact e
 ·rename_i op t x y t' ho
  simp only[SG,HH]at e
  split at e
  ·rename_i q a q' b hx hy
   obtain⟨h1,e⟩:=AD e
   have hn:DW ti o (AH σ.slots) (AK σ.heap)=none:=by
    unfold DW
    simp only[ho,hx,hy,He]
    cases nQ op<;>rfl
   simp only[CC,hn]
   simp only[ho,Ct,DQ,Ir,DN,Dx,h1,Aj,hx,hy,Qi,Jf,RO]
   exact e
  ·exact e
 ·rename_i t x ho
  simp only[SG,HH]at e
  split at e
  ·rename_i id q hx
   obtain⟨ob,hob,e⟩:=QS e
   split at e
   ·rename_i cs
    obtain⟨h1,e⟩:=AD e
    simp only[CC,ho,Ct,DW,DQ,Ir,DN,Dx,h1,Aj,hx,Jf,L5,hob,BQ,LP]
    exact e
   ·exact e
  ·exact e
 ·rename_i t x f ho
  simp only[SG,HH]at e
  split at e
  ·rename_i id q hx
   obtain⟨h1,e⟩:=AD e
   simp only[CC,ho,Ct,DW,DQ,Ir,DN,Dx,h1,Aj,hx,Jf,KN]
   exact e
  ·exact e
 ·rename_i x ho
  simp only[M1,HH]at e
  split at e
  ·rename_i id q hx
   obtain⟨h1,e⟩:=AD e
   simp only[CC,ho,Ct,DW,DQ,Ir,DN,Dx,h1,Aj,hx,Jf,BQ]
   exact e
  ·exact e
 ·exact e
def oE:AV→Bool
 | .u=>true
 | _=>false
theorem aA {x:AV}(h:oE x=true):x= .u:=by cases x<;>first | rfl | cases h
def SJ (E:EnvZ γ) (x:Operand) (fresh:Nat) (σ:St) (K:St→Option γ):Option γ:=
 match x with
 | .tmp t=>(match AH σ.slots t with
  | .v (.c (.fn f BD))=>(match FQ (AK σ.heap) BD with
   | some cs=>Aj E.df<| Aj (BQ (Nat.beq t DT))<| Aj (nodupB BD)<| Aj (PI (AH σ.slots DT))<| Aj (oE (AH (HF BD cs (AH σ.slots) σ.slots) DT))<| Aj (oE (AH (HF BD cs (AH σ.slots) σ.slots) t))<|
     K ⟨(DT,.df f cs [.agg []])::(DT,.df f cs [])::(HF BD cs (AH σ.slots) σ.slots++(t,.v (.c (.fz f cs)))::σ.slots),Be σ.heap (Aa BD),fresh⟩
   | none=>none)
  | _=>none)
 | _=>none
theorem Vc {M:AY}{ti:Types}{E:EnvZ γ}(hE:E.ok M ti r) {x:Operand}{fresh:Nat}{σ:St}{K:St→Option γ}{P:St→Prop}(hK:∀σ,K σ=some r→P σ) (e:SJ E x fresh σ K=some r):JL M ti x fresh σ P:=by
 unfold SJ at e
 split at e
 ·rename_i t
  split at e
  ·rename_i f BD ht
   split at e
   ·rename_i cs hb
    obtain⟨h1,e⟩:=AD e
    obtain⟨h2,e⟩:=AD e
    obtain⟨h3,e⟩:=AD e
    obtain⟨h4,e⟩:=AD e
    obtain⟨h5,e⟩:=AD e
    obtain⟨h6,e⟩:=AD e
    exact jS (hE.df h1) ht (fun e=>by subst e;simp[BQ]at h2) h3 hb (HG h4) (aA h5) (aA h6) (hK _ e)
   ·cases e
  ·cases e
 ·cases e
noncomputable def Lp (E:EnvZ γ) (ti:Types) (nt:Nat) (ops:Array Oper) (base:Nat):List Oper→Nat→St→(St→Option γ)→Option γ
 | [],i,σ,K=>K ⟨σ.slots,σ.heap,base+32*i⟩
 | o::l,i,σ,K=>IA ops o σ .e (fun _ σ=>match FM o with
    | some x=>SJ E x (base+32*i) σ fun σ2=>Lp E ti nt ops base l (i+1) σ2 K
    | none=>SH E ti nt o (base+32*i) σ fun σ2=>Lp E ti nt ops base l (i+1) σ2 K)
   (fun _ σ=>Aj (GB nt o.dst) (Lp E ti nt ops base l (i+1) ⟨BR σ.slots o.dst (.t []),σ.heap,σ.next⟩ K))
theorem Il {M:AY}{ti:Types}{E:EnvZ γ}(hE:E.ok M ti r) {nt:Nat}{ops:Array Oper}{base:Nat}{K:St→Option γ}{P:St→Prop}(hK:∀σ,K σ=some r→P σ):
  ∀(l:List Oper) (i:Nat) (σ:St),Lp E ti nt ops base l i σ K=some r→BT M ti nt ops base l i σ P
 | [],_,_,e=>hK _ e
 | o::l,i,σ,e=>by
  unfold Lp at e
  unfold BT
  exact IB (P1:=fun σ1=>match FM o with
    | some x=>JL M ti x (base+32*i) σ1 fun σ2=>BT M ti nt ops base l (i+1) σ2 P
    | none=>FL M ti nt o (base+32*i) σ1 fun σ2=>BT M ti nt ops base l (i+1) σ2 P) (P0:=fun σ1=>D0 nt o.dst (BT M ti nt ops base l (i+1) ⟨BR σ1.slots o.dst (.t []),σ1.heap,σ1.next⟩ P))
   (fun p e=>by
    split at e
    ·rename_i x hx
     skip
     exact Vc hE (fun σ2 e=>Il hE hK l (i+1) σ2 e) e
    ·rename_i hx
     skip
     exact Va hE (fun σ2 e=>Il hE hK l (i+1) σ2 e) (SI e)) (fun p e=>by
    obtain⟨h1,e⟩:=AD e
    exact Cw h1 (Il hE hK l (i+1) _ e)) e
inductive Hz where
 | slot (t:Nat)
 | cell (t j:Nat)
def Hz.id (σ:St):Hz→Option Id
 | .slot t=>(match AH σ.slots t with
  | .v (.c (.ow i))=>some i
  | _=>none)
 | .cell t j=>(match AH σ.slots t with
  | .v (.c (.ptr i o))=>(match AK σ.heap i with
   | some (.cells cs)=>(match MQ cs (o+j)with
    | .ow i=>some i
    | _=>none)
   | _=>none)
  | _=>none)
def kL:List Hz→St→(St→Option γ)→Option γ
 | [],σ,K=>K σ
 | x::l,σ,K=>(match x.id σ with
  | some i=>DF [.freeze i] σ fun σ=>kL l σ K
  | none=>kL l σ K)
theorem Vd:∀{l:List Hz}{σ:St}{K:St→Option γ},kL l σ K=some r→∃σ',A8 σ σ'∧K σ'=some r
 | [],σ,K,e=>⟨σ,A8.refl _,e⟩
 | x::l,σ,K,e=>by
  unfold kL at e
  split at e
  ·obtain⟨σ1,hw,e⟩:=Bj (Cd (P:=fun σ=>kL l σ K=some r) (fun σ h=>h) e)
   obtain⟨σ2,hw2,e⟩:=Vd e
   exact⟨σ2,A8.trans hw hw2,e⟩
  ·exact Vd e
noncomputable def SK (E:EnvZ γ) (n:FuncId) (args:List V1) (m:List Id) (fresh:Nat) (σ:St) (K:St→Option γ):Option γ:=
 QR fresh fun fresh=>lst m fun m=>Aj (GI m)<| Ou (Zt (X3 m)) args fun as'=>Ff σ.heap (X3 m) m fun os'=>
   (match E.fn n as' os' with
    | some (.ret x)=>Aj (GJ os' x.post)<| Aj (Nat.ble x.new.length 31)<| UE m fresh x.post x.new σ.heap fun h=>K ⟨σ.slots,h,σ.next⟩
    | _=>none)
theorem Ve {M:AY}{ti:Types}{E:EnvZ γ}(hE:E.ok M ti r) {n:FuncId}{args:List V1}{m:List Id}{fresh:Nat}{σ:St}{K:St→Option γ}{P:St→Prop}(hK:∀σ,K σ=some r→P σ) (e:SK E n args m fresh σ K=some r):Qw M none fresh σ n args P:=by
 unfold SK at e
 rw[GH]at e
 have e:=IH e
 obtain⟨h3,e⟩:=AD e
 obtain⟨targs,hargs,e⟩:=Cu (Ja (Fg m fresh)) _ _ e
 obtain⟨pre,⟨g1,g2⟩,e⟩:=Cq (Fg m fresh) _ _ e
 split at e
 ·rename_i x hx
  obtain⟨h4,e⟩:=AD e
  obtain⟨h5,e⟩:=AD e
  refine⟨m,targs,pre,_,hE.fn _ _ _ _ hx,hargs,g1,DG h3,g2,?_⟩
  rintro res post new ⟨rfl,rfl,rfl⟩
  exact⟨⟨Di h4,Nat.le_of_ble_eq_true h5⟩,hK _ (Kl e)⟩
 ·cases e
def Ow (s:AN):List Nat→List (Nat×AV)
 | []=>[]
 | t::l=>(t,s t)::Ow s l
theorem QV (s:AN):∀(l:List Nat) (t:Nat),AH (Ow s l) t= .u∨AH (Ow s l) t=s t
 | [],_=>.inl rfl
 | k::l,t=>by
  unfold Ow
  rw[Ai]
  simp only[]
  by_cases h:t=k
  ·rw[if_pos h];subst h;exact .inr rfl
  ·rw[if_neg h];exact QV s l t
noncomputable def M3 (E:EnvZ γ) (n:FuncId) (cap:List Id) (ps:Array Tmp) (assign body:Code) (nt:Nat) (σ:St) (K:X4 γ):Option γ:=
 SK E n (V1.c (.yl (.loc σ.next))::cap.map fun i=>V1.c (.ptr i 0)) (Ep (CR σ.heap (.loc σ.next) (.rnd (fun _=>⟨ps,assign,body,nt⟩) (Ow (AH σ.slots) E.kp))) 200 (.loc σ.next::cap) [])
  (σ.next+32) ⟨σ.slots,CR σ.heap (.loc σ.next) (.rnd (fun _=>⟨ps,assign,body,nt⟩) (Ow (AH σ.slots) E.kp)),σ.next+64⟩ fun σ2=>match AK σ2.heap (.loc σ.next)with
   | some (.rnd _ _)=>K .normal ⟨σ2.slots,CR σ2.heap (.loc σ.next) .gone,σ2.next⟩
   | some (.rndX j)=>(match j with
    | none=>K .ret ⟨σ2.slots,CR σ2.heap (.loc σ.next) .gone,σ2.next⟩
    | some id=>K (.exit id) ⟨σ2.slots,CR σ2.heap (.loc σ.next) .gone,σ2.next⟩)
   | _=>none
theorem Vf {M:AY}{ti:Types}{E:EnvZ γ}(hE:E.ok M ti r) {n:FuncId}{cap:List Id}{ps:Array Tmp}{assign body:Code}{nt:Nat}{g:Operand}{σ:St}{K:X4 γ}{P:B5→St→Prop}(hg:AP ti (AH σ.slots) 0 g= .v (.c (.fn n cap))) (hK:∀e σ,K e σ=some r→P e σ)
  (e:M3 E n cap ps assign body nt σ K=some r):Up M ti nt g ps assign body σ P:=by
 refine⟨σ,A8.refl _,?_⟩
 rw[hg]
 refine⟨Ow (AH σ.slots) E.kp,QV _ _,?_⟩
 unfold M3 at e
 refine Ve hE (fun σ2 e=>?_) e
 split at e
 ·rename_i h;simp only[h];exact hK _ _ e
 ·rename_i h
  simp only[h]
  split at e
  ·exact hK _ _ e
  ·exact hK _ _ e
 ·cases e
def aB (b:St→X4 γ→Option γ) (K:X4 γ):Nat→St→Option γ
 | 0,_=>none
 | n+1,σ=>b σ fun e σ'=>match e with
  | .normal=>aB b K n σ'
  | .exit id=>K (.exit id) σ'
  | .ret=>K .ret σ'
noncomputable def E4 (E:EnvZ γ) (dz:Array Oper→St→(St→Option γ)→Option γ) (hi:Nat→List Hz) (ti:Types) (nt N:Nat):Nat→Code→St→X4 γ→Option γ
 | _,.skip,σ,K=>K .normal σ
 | _,.region _ ops draw,σ,K=>(match draw with
  | false=>Lp E ti nt ops σ.next ops.toList 0 σ fun σ'=>K .normal σ'
  | true=>dz ops σ fun σ'=>K .normal σ')
 | p,.seq a b,σ,K=>E4 E dz hi ti nt N (2*p) a σ fun e σ'=>match e with
  | .normal=>kL (hi (2*p+1)) σ' fun σ'=>E4 E dz hi ti nt N (2*p+1) b σ' K
  | .exit id=>K (.exit id) σ'
  | .ret=>K .ret σ'
 | p,.cond c a b,σ,K=>V6 (AP ti (AH σ.slots) 0 c) fun q=>(match q with
  | true=>E4 E dz hi ti nt N (2*p) a σ K
  | false=>E4 E dz hi ti nt N (2*p+1) b σ K)
 | p,.block id c,σ,K=>E4 E dz hi ti nt N (2*p) c σ fun e σ'=>match e with
  | .normal=>K .normal σ'
  | .exit id'=>(match Nat.beq id' id with
   | true=>K .normal σ'
   | false=>K (.exit id') σ')
  | .ret=>K .ret σ'
 | p,.loop c,σ,K=>aB (fun σ K=>E4 E dz hi ti nt N (2*p) c σ K) K N σ
 | _,.exit id,σ,K=>K (.exit id) σ
 | _,.ret,σ,K=>K .ret σ
 | _,.rangeFunc g ps assign body,σ,K=>(match AP ti (AH σ.slots) 0 g with
  | .v (.c (.fn n cap))=>M3 E n cap ps assign body nt σ K
  | _=>none)
 | _,_,_,_=>none
theorem Fh {M:AY}{ti:Types}{E:EnvZ γ}(hE:E.ok M ti r) {dz:Array Oper→St→(St→Option γ)→Option γ}{dr:LB}{hi:Nat→List Hz}{nt N:Nat}(hd:∀ops σ (K:St→Option γ) (P:St→Prop),(∀σ,K σ=some r→P σ)→dz ops σ K=some r→dr ops σ P):
  ∀(c:Code) (p:Nat) (σ:St) (K:X4 γ) (P:B5→St→Prop),(∀e σ,K e σ=some r→P e σ)→E4 E dz hi ti nt N p c σ K=some r→exec M ti nt dr c σ P
 | .skip,_,_,_,_,hK,e=>hK _ _ e
 | .exit _,_,_,_,_,hK,e=>hK _ _ e
 | .ret,_,_,_,_,hK,e=>hK _ _ e
 | .region id ops draw,p,σ,K,P,hK,e=>by
  cases draw with
  | false=>exact Il hE (fun σ e=>hK _ _ e) _ _ _ e
  | true=>exact hd _ _ _ _ (fun σ e=>hK _ _ e) e
 | .seq a b,p,σ,K,P,hK,e=>by
  refine (M.lock_iff _).2 (.inr ⟨fun σ''=>exec M ti nt dr b σ'' P,?_,fun _ h=>h⟩)
  refine Fh hE hd a (2*p) σ _ _ (fun e σ h=>?_) e
  cases e with
  | normal=>
   obtain⟨σ',hw,h⟩:=Vd h
   exact⟨σ',hw,Fh hE hd b _ _ _ _ hK h⟩
  | exit id=>exact hK _ _ h
  | ret=>exact hK _ _ h
 | .cond c a b,p,σ,K,P,hK,e=>by
  show Lw (AP ti (AH σ.slots) 0 c) _
  refine U0 (fun q e=>?_) (show V6 (AP ti (AH σ.slots) 0 c) _=some r from e)
  cases q with
  | true=>exact Fh hE hd a _ _ _ _ hK e
  | false=>exact Fh hE hd b _ _ _ _ hK e
 | .block id c,p,σ,K,P,hK,e=>by
  refine Fh hE hd c _ σ _ _ (fun e σ h=>?_) e
  cases e with
  | normal=>exact hK _ _ h
  | ret=>exact hK _ _ h
  | exit id'=>
   simp only[]at h ⊢
   split at h
   ·rename_i hb;simp only[hb];exact hK _ _ h
   ·rename_i hb;simp only[hb];exact hK _ _ h
 | .loop c,p,σ,K,P,hK,e=>by
  have main:∀n σ,aB (fun σ K=>E4 E dz hi ti nt N (2*p) c σ K) K n σ=some r→IW M (fun σ K=>exec M ti nt dr c σ K) P n σ:=by
   intro n
   induction n with
   | zero=>intro σ e;cases e
   | succ n ih=>
    intro σ e
    refine Fh hE hd c _ σ _ _ (fun e σ h=>?_) e
    cases e with
    | normal=>exact ih _ h
    | exit id=>exact hK _ _ h
    | ret=>exact hK _ _ h
  exact (M.lock_iff _).2 (.inr ⟨N,main N σ e⟩)
 | .rangeFunc g ps assign body,p,σ,K,P,hK,e=>by
  replace e:(match AP ti (AH σ.slots) 0 g with
   | .v (.c (.fn n cap))=>M3 E n cap ps assign body nt σ K
   | _=>none)=some r:=e
  split at e
  ·rename_i n cap hg
   exact (M.lock_iff _).2 (Vf hE hg hK e)
  ·cases e
 | .scope _,_,_,_,_,_,e=>by cases e
 | .label _,_,_,_,_,_,e=>by cases e
 | .goto _,_,_,_,_,_,e=>by cases e
 | .refuse _,_,_,_,_,_,e=>by cases e
end
end Go.AM
namespace Go.AM
open Go Go.RowKit
def SL (ops:Array Oper) (o:Oper) (σ:St):Option Bool:=
 match o.guard with
 | none=>some true
 | some (j,want)=>(match (ops[j]?).bind (·.dst)with
  | none=>none
  | some d=>(match AH σ.slots d with
   | .v (.d (.bool c))=>some (match want with
    | true=>c
    | false=>BQ c)
   | .t []=>some false
   | _=>none))
theorem Gm {ops:Array Oper}{o:Oper}{σ:St}{b:Bool}{P1 P0:St→Prop}(h:SL ops o σ=some b) (h1:b=true→P1 σ) (h0:b=false→P0 σ):guarded ops o σ P1 P0:=by
 unfold SL at h
 unfold guarded
 split at h
 ·rename_i hg;simp only[hg];cases h;exact h1 rfl
 ·rename_i j want hg
  simp only[hg]
  split at h
  ·cases h
  ·rename_i d hd
   simp only[hd]
   split at h
   ·rename_i c hs
    simp only[hs]
    cases h
    cases want<;>cases c
    ·exact h1 rfl
    ·exact h0 rfl
    ·exact h0 rfl
    ·exact h1 rfl
   ·rename_i hs;simp only[hs];cases h;exact h0 rfl
   ·cases h
abbrev jU:=List (Id×AB)
noncomputable def fV (run:CB) (n:FuncId) (args:List V1) (m:List Id) (fresh:Nat) (σ:St):Option (List Id×(AV×jU ⊕ Value×jU)):=
 QR fresh fun fresh=>lst m fun m=>Aj (GI m)<| Ou (Zt (X3 m)) args fun us=>Ff σ.heap (X3 m) m fun os=>(match run n us os with
  | some (.ret x)=>Aj (GJ os x.post)<| Aj (Nat.ble x.new.length 31)<| kK (Ki m fresh) x.res fun v=>lZ (Ki m fresh) m x.post fun w1=>UD (Ki m fresh) fresh 0 x.new fun w2=>some (m,.inl (v,w1++w2))
  | some (.pan v post new)=>Aj (GJ os post)<| Aj (Nat.ble new.length 31)<| lZ (Ki m fresh) m post fun w1=>UD (Ki m fresh) fresh 0 new fun w2=>some (m,.inr (v,w1++w2))
  | none=>none)
noncomputable def WU (run:CB) (ti:Types) (c:Call) (f:Operand) (fresh:Nat) (σ:St):Option (List Id×(AV×jU ⊕ Value×jU)):=
 match ES (AP ti (AH σ.slots) 0 f)with
 | none=>none
 | some (n,as',bs)=>(match GN (BM ti (AH σ.slots) c.args.toList c.argTypes.toList)with
  | none=>none
  | some xs=>fV run n (as'++(xs++bs)) (Ep σ.heap 200 (Bt (as'++(xs++bs))) []) fresh σ)
theorem UI {P:Program}{I:Inv}{run:CB}(hr:∀f args pre e,run f args pre=some e→e.ok P I f args pre) {ti:Types}{c:Call}{f:Operand}{fresh:Nat}{σ:St}{x:List Id×(AV×jU ⊕ Value×jU)}(e:WU run ti c f fresh σ=some x):
    ∃(n:FuncId) (as' bs xs targs:List V1) (pre:List AB),ES (AP ti (AH σ.slots) 0 f)=some (n,as',bs)∧GN (BM ti (AH σ.slots) c.args.toList c.argTypes.toList)=some xs∧as'++(xs++bs)=targs.map (V1.Ar (Av x.1 fresh))∧x.1.length=pre.length∧x.1.Nodup∧
      (∀(j:Nat) i o,x.1[j]?=some i→pre[j]?=some o→AK σ.heap i=some (o.Ar (Av x.1 fresh)))∧
      ((∃y:Jg,Bf P I n targs pre y.res y.post y.new∧BI pre y.post∧y.new.length≤31∧x.2= .inl (y.res.Ar (Av x.1 fresh),Iv x.1 (Av x.1 fresh) y.post++B4 fresh (Av x.1 fresh) 0 y.new))∨
       (∃v post new,Iu P I n targs pre v post new∧BI pre post∧new.length≤31∧x.2= .inr (v,Iv x.1 (Av x.1 fresh) post++B4 fresh (Av x.1 fresh) 0 new))):=by
  unfold WU at e
  split at e
  · cases e
  rename_i n as' bs h1
  split at e
  · cases e
  rename_i xs h2
  generalize Ep σ.heap 200 (Bt (as'++(xs++bs))) []=m at e
  unfold fV at e
  rw[GH]at e
  have e:=IH e
  obtain⟨h3,e⟩:=AD e
  obtain⟨targs,hargs,e⟩:=Cu (Ja (Fg m fresh)) _ _ e
  obtain⟨pre,⟨g1,g2⟩,e⟩:=Cq (Fg m fresh) _ _ e
  split at e
  · rename_i y hy
    obtain⟨h4,e⟩:=AD e
    obtain⟨h5,e⟩:=AD e
    have e:=Kk (Eh m fresh) fresh _ 0 _ (SC (Eh m fresh) _ m _ (VT (Eh m fresh) _ _ e))
    cases e
    exact⟨n,as',bs,xs,targs,pre,h1,h2,hargs,g1,DG h3,g2,.inl ⟨y,hr _ _ _ _ hy,Di h4,Nat.le_of_ble_eq_true h5,rfl⟩⟩
  · rename_i v post new hy
    obtain⟨h4,e⟩:=AD e
    obtain⟨h5,e⟩:=AD e
    have e:=Kk (Eh m fresh) fresh _ 0 _ (SC (Eh m fresh) _ m _ e)
    cases e
    exact⟨n,as',bs,xs,targs,pre,h1,h2,hargs,g1,DG h3,g2,.inr ⟨v,post,new,hr _ _ _ _ hy,Di h4,Nat.le_of_ble_eq_true h5,rfl⟩⟩
  · cases e
def Lq (o:Oper):Option (Call×Operand):=
 match o.op with
 | .call c=>(match c.callee with
  | .value f=>some (c,f)
  | _=>none)
 | _=>none
theorem Ox {o:Oper}{c:Call}{f:Operand}(h:Lq o=some (c,f)):o.op= .call c∧c.callee= .value f:=by
 unfold Lq at h
 split at h
 ·rename_i c' ho
  split at h
  ·rename_i f' hf;cases h;exact⟨ho,hf⟩
  ·cases h
 ·cases h
inductive DR where
 | ok (σ:St) (fps:List Fp)
 | pan (v:Value) (h:List (Id×AB))
noncomputable def F6 (b:Bool) (E:EnvO Out) (run:CB) (ti:Types) (nt:Nat) (ops:Array Oper) (base:Nat):List Oper→Nat→St→List Fp→Option DR
 | [],i,σ,fps=>some (.ok ⟨σ.slots,σ.heap,base+32*i⟩ fps)
 | o::l,i,σ,fps=>match SL ops o σ with
  | none=>none
  | some false=>Aj (GB nt o.dst) (F6 b E run ti nt ops base l (i+1) ⟨BR σ.slots o.dst (.t []),σ.heap,σ.next⟩ (fps++[([],[])]))
  | some true=>Aj (Ct o)<| Aj (GB nt o.dst)<| (match Lq o with
   | some (c,f)=>(match WU run ti c f (base+32*i) σ with
    | some (m,.inl (v,wr))=>Zs b (SY nG) (Be σ.heap wr) fun h=>F6 b E run ti nt ops base l (i+1) ⟨BR σ.slots o.dst v,h,σ.next⟩ (fps++[(m,wr.map (·.1))])
    | some (m,.inr (v,wr))=>Aj (isNone o.guard)<| Aj (dW ops i fps m)<| some (.pan v (Be σ.heap wr))
    | none=>none)
   | none=>(match DN E ti o (base+32*i) (AH σ.slots) (AK σ.heap) .e fun _ out=>some out with
    | some out=>Zs b kJ out.val fun v=>Zs b (SY dV) out.wr fun wr=>Zs b (SY nG) (Be σ.heap wr) fun h=>F6 b E run ti nt ops base l (i+1) ⟨BR σ.slots o.dst v,h,σ.next⟩ (fps++[(out.rd,wr.map (·.1))])
    | none=>none))
theorem Xp {M:AY}{run:CB}(hr:∀f args pre e,run f args pre=some e→e.ok M.P M.I f args pre) {ti:Types}{o:Oper}{c:Call}{f:Operand}(ho:o.op= .call c) (hf:c.callee= .value f) {fresh:Nat}{σ:St}{m:List Id}{v:AV}{wr:jU}(e:WU run ti c f fresh σ=some (m,.inl (v,wr))) {P:Out→Prop}(hP:P ⟨v,m,wr⟩):
  CI M ti o fresh (AH σ.slots) (AK σ.heap) P:=by
 obtain⟨n,as',bs,xs,targs,pre,h1,h2,k1,k2,k3,k4,⟨y,k5,k6,k7,k8⟩ | ⟨v',post,new,k5,k6,k7,k8⟩⟩:=UI hr e
 ·simp only[Sum.inl.injEq,Prod.mk.injEq]at k8
  obtain⟨rfl,rfl⟩:=k8
  unfold CI
  rw[ho]
  simp only[]
  rw[hf]
  refine .inr (.inl ⟨[],?_⟩)
  show Ab M ti o fresh (AH σ.slots) (AK σ.heap) _
  unfold Ab
  rw[ho]
  simp only[]
  rw[hf]
  refine H9 (n:=n) (xs1:=as') (bs:=bs) (w:=true) (xs:=xs) ?_ h2 ⟨m,targs,pre,y.res,y.post,y.new,k5,k1,k2,k3,k4,k6,k7,?_⟩
  ·unfold ES at h1
   split at h1
   ·rename_i h;rw[h];exact h1
   ·rename_i h;rw[h];exact h1
   ·cases h1
  ·simpa using hP
 ·cases k8
def fW (M:AY) (ti:Types) (ops:Array Oper) (base i:Nat) (c:Call) (f:Operand) (v0:Value) (hl:List (Id×AB)) (σ':St) (fps:List Fp):Prop:=
 ∃(n:FuncId) (as' bs xs:List V1) (m:List Id) (targs:List V1) (pre:List AB) (post new:List AB),dW ops i fps m=true∧ES (AP ti (AH σ'.slots) 0 f)=some (n,as',bs)∧M9 (BM ti (AH σ'.slots) c.args.toList c.argTypes.toList) xs∧
  Iu M.P M.I n targs pre v0 post new∧as'++(xs++bs)=targs.map (V1.Ar (Av m (base+32*i)))∧m.length=pre.length∧m.Nodup∧
  (∀(j:Nat) i' o,m[j]?=some i'→pre[j]?=some o→AK σ'.heap i'=some (o.Ar (Av m (base+32*i))))∧BI pre post∧new.length≤31∧
  hl=Be σ'.heap (Iv m (Av m (base+32*i)) post++B4 (base+32*i) (Av m (base+32*i)) 0 new)
theorem HI {b:Bool}{M:AY}{E:EnvO Out}{run:CB}{ti:Types}(hE:E.ok M.P M.I ti) (hr:∀f args pre e,run f args pre=some e→e.ok M.P M.I f args pre) {nt:Nat}{ops:Array Oper}{base:Nat}:
  ∀(l:List Oper) (i:Nat) (σ:St) (fps:List Fp) (x:DR),F6 b E run ti nt ops base l i σ fps=some x→
   (∀σ' fps',x= .ok σ' fps'→∀P:St→List Fp→Prop,P σ' fps'→BJ M ti nt ops base l i σ fps P)∧
   (∀v h,x= .pan v h→∃(j:Nat) (o:Oper) (c:Call) (f:Operand),l[j]?=some o∧o.guard=none∧o.op= .call c∧c.callee= .value f∧
    ∀P:St→List Fp→Prop,(∀σ' fps',fW M ti ops base (i+j) c f v h σ' fps'→P σ' fps')→BJ M ti nt ops base (l.take j) i σ fps P)
 | [],i,σ,fps,x,e=>by
  unfold F6 at e
  cases e
  exact⟨fun σ' fps' h P hP=>by cases h;exact hP,fun v h h'=>by cases h'⟩
 | o::l,i,σ,fps,x,e=>by
  have skip:∀(b:Bool) (σ2:St) (fp:Fp),SL ops o σ=some b→(∀Q:St→Prop,Q σ→guarded ops o σ (fun σ1=>if b then Q σ1 else True) (fun σ1=>if b then True else Q σ1)):=fun b σ2 fp hg Q hQ=>Gm hg (fun h=>by subst h;exact hQ) (fun h=>by subst h;exact hQ)
  unfold F6 at e
  simp only[R9 R8,R9 (EJ WN),R9 (EJ Zr)]at e
  split at e
  ·cases e
  ·rename_i hg
   obtain⟨h1,e⟩:=AD e
   obtain⟨A,B⟩:=HI hE hr l (i+1) _ _ x e
   refine⟨fun σ' fps' hx P hP=>?_,fun v h hx=>?_⟩
   ·unfold BJ
    exact Gm hg (fun h=>by cases h) (fun _=>Cw h1 (A σ' fps' hx P hP))
   ·obtain⟨j,o',c,f,g1,g2,g3,g4,g5⟩:=B v h hx
    refine⟨j+1,o',c,f,by simpa using g1,g2,g3,g4,fun P hP=>?_⟩
    show BJ M ti nt ops base (o::l.take j) i σ fps P
    unfold BJ
    exact Gm hg (fun h=>by cases h) (fun _=>Cw h1 (g5 P fun σ' fps' hp=>hP σ' fps' (by rwa [show i+(j+1)=i+1+j from by omega])))
  ·rename_i hg
   obtain⟨h1,e⟩:=AD e
   obtain⟨h2,e⟩:=AD e
   have go:∀out:Out,(∀P:Out→Prop,P out→CI M ti o (base+32*i) (AH σ.slots) (AK σ.heap) P)→F6 b E run ti nt ops base l (i+1) ⟨BR σ.slots o.dst out.val,Be σ.heap out.wr,σ.next⟩ (fps++[(out.rd,out.wr.map (·.1))])=some x→
     (∀σ' fps',x= .ok σ' fps'→∀P:St→List Fp→Prop,P σ' fps'→BJ M ti nt ops base (o::l) i σ fps P)∧
     (∀v h,x= .pan v h→∃(j:Nat) (o1:Oper) (c:Call) (f:Operand),(o::l)[j]?=some o1∧o1.guard=none∧o1.op= .call c∧c.callee= .value f∧
      ∀P:St→List Fp→Prop,(∀σ' fps',fW M ti ops base (i+j) c f v h σ' fps'→P σ' fps')→BJ M ti nt ops base ((o::l).take j) i σ fps P):=by
    intro out hout e
    obtain⟨A,B⟩:=HI hE hr l (i+1) _ _ x e
    refine⟨fun σ' fps' hx P hP=>?_,fun v h hx=>?_⟩
    ·unfold BJ
     exact Gm hg (fun _=>EI h1 (Cw h2 (hout (fun out=>BJ M ti nt ops base l (i+1) ⟨BR σ.slots o.dst out.val,Be σ.heap out.wr,σ.next⟩ (fps++[(out.rd,out.wr.map (·.1))]) P) (A σ' fps' hx P hP)))) (fun h=>by cases h)
    ·obtain⟨j,o',c,f,g1,g2,g3,g4,g5⟩:=B v h hx
     refine⟨j+1,o',c,f,by simpa using g1,g2,g3,g4,fun P hP=>?_⟩
     show BJ M ti nt ops base (o::l.take j) i σ fps P
     unfold BJ
     exact Gm hg (fun _=>EI h1 (Cw h2 (hout (fun out=>BJ M ti nt ops base (l.take j) (i+1) ⟨BR σ.slots o.dst out.val,Be σ.heap out.wr,σ.next⟩ (fps++[(out.rd,out.wr.map (·.1))]) P) (g5 P fun σ' fps' hp=>hP σ' fps' (by rwa [show i+(j+1)=i+1+j from by omega]))))) (fun h=>by cases h)
   split at e
   ·rename_i c f hv
    obtain⟨ho,hf⟩:=Ox hv
    split at e
    ·rename_i m v wr hcall
     exact go ⟨v,m,wr⟩ (fun P hP=>Xp hr ho hf hcall hP) e
    ·rename_i m v wr hcall
     obtain⟨h3,e⟩:=AD e
     obtain⟨h4,e⟩:=AD e
     cases e
     refine⟨fun σ' fps' hx=>(by cases hx),fun v' h hx=>?_⟩
     cases hx
     have hgd:o.guard=none:=by cases hq:o.guard with | none=>rfl | some y=>rw[hq]at h3;cases h3
     refine⟨0,o,c,f,rfl,hgd,ho,hf,fun P hP=>?_⟩
     show P ⟨σ.slots,σ.heap,base+32*i⟩ fps
     refine hP _ _ ?_
     obtain⟨n,as',bs,xs,targs,pre,q1,q2,k1,k2,k3,k4,⟨y,k5,k6,k7,k8⟩ | ⟨v',post,new,k5,k6,k7,k8⟩⟩:=UI hr hcall
     ·cases k8
     ·simp only[Sum.inr.injEq,Prod.mk.injEq]at k8
      obtain⟨rfl,rfl⟩:=k8
      exact⟨n,as',bs,xs,m,targs,pre,post,new,h4,q1,.inr q2,k5,k1,k2,k3,k4,k6,k7,rfl⟩
    ·cases e
   ·split at e
    ·rename_i out hout
     exact go out (fun P hP=>FZ hE (r:=out) (fun p o' h=>by cases h;exact hP) hout) e
    ·cases e
end Go.AM
namespace Go.AM
open Go Go.RowKit
section
variable {γ:Type}{r:γ}
noncomputable def aC (E:EnvZ γ) (O:EnvO Out) (ti:Types) (nt:Nat) (ops:Array Oper) (σ:St) (K:St→Option γ):Option γ:=
 match F6 E.nf O E.fn ti nt ops σ.next ops.toList 0 σ []with
 | some (.ok σ' fps)=>Aj (TK ops fps) (K σ')
 | some (.pan v h)=>Aj (fT (AH σ.slots DT))<| E.ab v (Ov ops σ.slots) h (σ.next+32*ops.size)
 | none=>none
theorem aD {M:AY}{ti:Types}{E:EnvZ γ}(hE:E.ok M ti r) {O:EnvO Out}(hO:O.ok M.P M.I ti) {nt:Nat}(ops:Array Oper) (σ:St) (K:St→Option γ) (P:St→Prop) (hK:∀σ,K σ=some r→P σ) (e:aC E O ti nt ops σ K=some r):Cr ti M nt ops σ P:=by
 unfold aC at e
 split at e
 ·rename_i σ' fps hx
  obtain⟨h1,e⟩:=AD e
  exact .inl ((HI hO hE.fn _ _ _ _ _ hx).1 σ' fps rfl _ ⟨(M.lock_iff _).2 h1,hK _ e⟩)
 ·rename_i v h hx
  obtain⟨h1,e⟩:=AD e
  obtain⟨j,o,c,f,g1,g2,g3,g4,g5⟩:=(HI hO hE.fn _ _ _ _ _ hx).2 v h rfl
  refine .inr ⟨j,o,c,f,by simpa using g1,g2,g3,g4,h1,g5 _ fun σ' fps' hp=>?_⟩
  rw[Nat.zero_add]at hp
  obtain⟨n,as',bs,xs,m,targs,pre,post,new,q1,q2,q3,q4,q5,q6,q7,q8,q9,q10,rfl⟩:=hp
  exact⟨n,as',bs,xs,m,targs,pre,v,post,new,(M.lock_iff _).2 q1,q2,q3,q4,q5,q6,q7,q8,q9,q10,hE.ab _ _ _ _ e⟩
 ·cases e
end
noncomputable def Lr (np:Nat) (h:List (Id×AB)) (nx:Nat):Option (List AB×List AB):=
 lst (Bn (Ep h 200 (B0 0 np) [])) fun nm=>Aj (GI nm)<| Ff h (Xl nm) (B0 0 np) fun ps=>Ff h (Xl nm) nm fun ns=>some (ps,ns)
theorem Im {np:Nat}{h:List (Id×AB)}{nx:Nat}{x:List AB×List AB}(h0:Lr np h nx=some x):Xm h nx x.1 x.2:=by
 unfold Lr at h0
 have e:=IH h0
 generalize Ep h 200 (B0 0 np) []=m at e
 obtain⟨h1,e⟩:=AD e
 obtain⟨ps,h3,e⟩:=Cq (Kj _ nx) _ _ e
 obtain⟨ns,h4,e⟩:=Cq (Kj _ nx) _ _ e
 cases e
 exact⟨Bn m,Ba.2 (DG h1),h3.post,h4.new,E9 m⟩
noncomputable def aE (np:Nat) (v:Value) (s:List (Nat×AV)) (h:List (Id×AB)) (nx:Nat):Option En:=
 Aj (PI (AH s DT))<| (match Lr np h nx with
  | some x=>some (.pan v x.1 x.2)
  | none=>none)
theorem UJ {np:Nat}{v:Value}{s:List (Nat×AV)}{h:List (Id×AB)}{nx:Nat}{e:En}(h0:aE np v s h nx=some e):∃post new,e= .pan v post new∧AH s DT= .df 0 [] []∧Xm h nx post new:=by
 unfold aE at h0
 obtain⟨h1,h0⟩:=AD h0
 split at h0
 ·rename_i x hx
  cases h0
  exact⟨_,_,rfl,HG h1,Im hx⟩
 ·cases h0
structure Fl where
 fns:Nat→Option Func
 ext:CB
 frz:Nat→Bool
 lit:Nat→Bool
 sok:TypeId→Bool
 hi:Nat→Nat→List Hz
 rounds:Nat
 md:Nat→Nat
 kp:Nat→List Nat
 nf:Bool
structure Fl.ok (P:Program) (I:Inv) (ti:Types) (W:Fl):Prop where
 fns:∀f fn,W.fns f=some fn→P.funcs[f]?=some fn∧(fn.name== "runtime.NumGoroutine")=false
 ext:∀f args pre e,W.ext f args pre=some e→e.ok P I f args pre
 sok:nB P ti W.sok
def CB.ok (P:Program) (I:Inv) (run:CB):Prop:=∀f args pre e,run f args pre=some e→e.ok P I f args pre
section
variable {γ:Type}{r:γ}
def dY (W:Fl) (run:CB) (yl:CE) (f:Nat) (df:Bool) (ab:Value→List (Nat×AV)→List (Id×AB)→Nat→Option γ):EnvZ γ where
 ds:=fun _ d k=>k d
 el:=fun _ _ _ _=>0
 own:=true
 sok:=W.sok
 call:=fun f args pre k=>match run f args pre with
  | some (.ret x)=>k 0 x
  | _=>none
 frz:=W.frz f
 nolit:=BQ (W.lit f)
 fn:=run
 ab:=ab
 df:=df
 yl:=yl
 kp:=W.kp f
 nf:=W.nf
def dZ:Value→List (Nat×AV)→List (Id×AB)→Nat→Option γ:=fun _ _ _ _=>none
def mB (W:Fl) (f:Nat):EnvO Out where
 ds:=fun _ d k=>k d
 el:=fun _ _ _ _=>0
 own:=true
 sok:=W.sok
 call:=fun _ _ _ _=>none
 frz:=W.frz f
 nolit:=BQ (W.lit f)
theorem eA {P:Program}{I:Inv}{ti:Types}{W:Fl}(hW:W.ok P I ti) (f:Nat):(mB W f).ok P I ti:=⟨fun _ _ _ _ h=>h,hW.sok,fun _ _ _ _ _ h=>by cases h⟩
theorem WV {P:Program}{I:Inv}{ti:Types}{W:Fl}(hW:W.ok P I ti) {run:CB}(hr:run.ok P I) {yl:CE}(hy:yl.ok P I) {f:Nat}{df:Bool}{ab:Value→List (Nat×AV)→List (Id×AB)→Nat→Option γ}{M:AY}(hP:M.P=P) (hI:M.I=I)
  (hdf:df=true→M.cl=true) (hab:∀v s h nx,ab v s h nx=some r→M.pn v s h nx):(dY W run yl f df ab).ok M ti r:=
 ⟨⟨fun _ _ _ _ h=>h,by rw[hP];exact hW.sok,by
  rw[hP,hI]
  intro f args pre k r hr'
  simp only[dY]at hr'
  split at hr'
  ·rename_i x hx;exact⟨0,x.res,x.post,x.new,hr _ _ _ _ hx,hr'⟩
  ·cases hr'⟩,by rw[hP,hI];exact hr,hab,hdf,by rw[hP,hI];exact hy⟩
noncomputable def Oy (W:Fl) (ti:Types) (run:CB) (yl:CE) (f:Nat) (df:Bool) (ab:Value→List (Nat×AV)→List (Id×AB)→Nat→Option γ) (hi:Nat→List Hz) (nt:Nat) (c:Code) (σ:St) (K:X4 γ):Option γ:=
 E4 (dY W run yl f df ab) (aC (dY W run yl f df ab) (mB W f) ti nt) hi ti nt W.rounds 1 c σ K
theorem EK {P:Program}{I:Inv}{ti:Types}{W:Fl}(hW:W.ok P I ti) {run:CB}(hr:run.ok P I) {yl:CE}(hy:yl.ok P I) {f:Nat}{df:Bool}{ab:Value→List (Nat×AV)→List (Id×AB)→Nat→Option γ}{hi:Nat→List Hz}{nt:Nat}{c:Code}{σ:St}{K:X4 γ}{M:AY}(hP:M.P=P) (hI:M.I=I)
  (hdf:df=true→M.cl=true) (hab:∀v s h nx,ab v s h nx=some r→M.pn v s h nx) {Q:B5→St→Prop} (hK:∀e σ,K e σ=some r→Q e σ) (e:Oy W ti run yl f df ab hi nt c σ K=some r):exec M ti nt (Cr ti M nt) c σ Q:=
 Fh (WV hW hr hy hP hI hdf hab) (dr:=Cr ti M nt) (fun ops σ K P hK e=>aD (WV hW hr hy hP hI hdf hab) (by rw[hP,hI];exact eA hW f) ops σ K P hK e) c 1 σ K Q hK e
end
def mC:Value→Bool
 | .nilIface=>true
 | .iface _ _=>true
 | _=>false
noncomputable def fX (np:Nat):X4 (List AB×List AB):=fun e σ=>match e with
 | .exit _=>none
 | .normal=>Aj (PI (AH σ.slots DT)) (Lr np σ.heap σ.next)
 | .ret=>Aj (PI (AH σ.slots DT)) (Lr np σ.heap σ.next)
noncomputable def fY (W:Fl) (ti:Types) (run:CB) (yl:CE) (fd:Nat) (p:Option Value) (args:List V1) (pre:List AB) (nt:Nat) (rest:Code) (o:Oper):Option (List AB×List AB):=
 match o.op,o.dst,o.guard with
 | .call c,some d,none=>(match c.callee with
  | .builtin .recover=>Aj (mC (SF p))<| Aj (Nat.blt d nt)<| Aj (Nat.ble args.length nt)<| Aj (Nat.ble nt DT)<| Aj (Cc rest)<|
    Oy W ti run yl fd false dZ (W.hi fd) nt rest ⟨(d,.v (.c (.kv (SF p))))::(DT,.df 0 [] [])::slotsOf args 0,A9 pre 0,0⟩ (fX pre.length)
  | _=>none)
 | _,_,_=>none
noncomputable def aF (W:Fl) (ti:Types) (run:CB) (yl:CE) (fd:Nat) (p:Option Value) (args:List V1) (pre:List AB):Option (List AB×List AB):=
 match W.fns fd with
 | none=>none
 | some fn=>(match fn.results.toList with
  | []=>(match fn.body with
   | some (.seq (.region _ ops draw) rest)=>(match draw,ops.toList with
    | false,[o]=>fY W ti run yl fd p args pre fn.ntmps rest o
    | _,_=>none)
   | _=>none)
  | _=>none)
section
variable {P:Program}{I:Inv}{ti:Types}(hti:Ao P ti) (h1:BB ti) (hm:P.follows .mixedOrders=true) {W:Fl}(hW:W.ok P I ti) {run:CB}(hr:run.ok P I) {yl:CE}(hy:yl.ok P I)
include hti h1 hm hW hr hy
theorem aG {fd:Nat}{p:Option Value}{args:List V1}{pre:List AB}{x:List AB×List AB}(h:aF W ti run yl fd p args pre=some x):UG P I fd p args pre x.1 x.2:=by
 unfold aF at h
 split at h
 ·cases h
 rename_i fn hfn
 obtain⟨hf,hname⟩:=hW.fns _ _ hfn
 split at h
 ·rename_i hres
  split at h
  ·rename_i id ops draw rest hb
   split at h
   ·rename_i o hops
    have hops:ops=#[o]:=by apply Array.ext';simpa using hops
    subst hops
    unfold fY at h
    split at h
    ·rename_i c d hop hdst hg
     split at h
     ·rename_i hc
      obtain⟨k1,h⟩:=AD h
      obtain⟨k2,h⟩:=AD h
      obtain⟨k3,h⟩:=AD h
      obtain⟨k4,h⟩:=AD h
      obtain⟨k5,h⟩:=AD h
      refine UG.intro (fun M nt=>Cr ti M nt) hti h1 (Ik hti h1 hm) p hf hb hname (by apply Array.ext';simpa using hres) hop hc hg hdst (by have:=k2;simp[Nat.blt]at this;omega) (by revert k1;cases SF p<;>simp[mC,Value.oneCell']) (Nat.le_of_ble_eq_true k3) (Nat.le_of_ble_eq_true k4) k5 fun M hP hI hcl=>?_
      refine EK hW hr hy hP hI (fun h=>by cases h) (fun _ _ _ _ h=>by cases h) (fun e σ h=>?_) h
      unfold fX at h
      cases e with
      | exit id=>cases h
      | normal=>obtain⟨g1,h⟩:=AD h;exact⟨fun id h=>(by cases h),HG g1,Im h⟩
      | ret=>obtain⟨g1,h⟩:=AD h;exact⟨fun id h=>(by cases h),HG g1,Im h⟩
     ·cases h
    ·cases h
   ·cases h
  ·cases h
 ·cases h
end
noncomputable def aH (W:Fl) (ti:Types) (run:CB) (yl:CE) (rs:List ResultVar) (np:Nat) (p:Option Value) (σ:St) (f:Nat) (cs:List FC) (args:List V1) (m:List Id):Option En:=
 lst m fun m=>Aj (GI m)<| Ou (Zt (X3 m)) args fun us=>Ff σ.heap (X3 m) m fun os=>
   (match aF W ti run yl f p us os with
    | some x=>Aj (GJ os x.1)<| Aj (Nat.ble x.2.length 31)<| UE m σ.next x.1 x.2 σ.heap fun h=>
      GK ti rs np ⟨(DT,.df f cs [])::σ.slots,h,σ.next+32⟩ fun y=>some (.ret y)
    | none=>none)
noncomputable def UK (W:Fl) (ti:Types) (run:CB) (yl:CE) (rs:List ResultVar) (np:Nat) (p:Option Value) (σ:St):Option En:=
 match AH σ.slots DT with
 | .df f cs rows=>(match rows with
  | [r]=>aH W ti run yl rs np p σ f cs ((fill cs r.cells).map O0) (Ep σ.heap 200 (Bt ((fill cs r.cells).map O0)) [])
  | _=>none)
 | _=>none
section
variable {P:Program}{I:Inv}{ti:Types}(hti:Ao P ti) (h1:BB ti) (hm:P.follows .mixedOrders=true) {W:Fl}(hW:W.ok P I ti) {run:CB}(hr:run.ok P I) {yl:CE}(hy:yl.ok P I)
include hti h1 hm hW hr hy
theorem UL {rs:List ResultVar}{np:Nat}{p:Option Value}{σ:St}{e:En}(h:UK W ti run yl rs np p σ=some e):∃x:Jg,e= .ret x∧fU P I ti rs (fun r p n=>r=x.res∧p=x.post∧n=x.new) p σ:=by
 unfold UK at h
 split at h
 ·rename_i f cs rows hdt
  split at h
  ·rename_i r
   generalize Ep σ.heap 200 (Bt ((fill cs r.cells).map O0)) []=m at h
   generalize hargs:(fill cs r.cells).map O0=args at h
   unfold aH at h
   have h:=IH h
   obtain⟨k3,h⟩:=AD h
   obtain⟨targs,ha,h⟩:=Cu (Ja (Fg m σ.next)) _ _ h
   obtain⟨pre,⟨g1,g2⟩,h⟩:=Cq (Fg m σ.next) _ _ h
   split at h
   ·rename_i x hx
    obtain⟨k4,h⟩:=AD h
    obtain⟨k5,h⟩:=AD h
    have h:=Kl h
    obtain⟨res,post,new,e1,e2⟩:=QT h
    cases e1
    exact⟨_,rfl,f,cs,r,m,targs,pre,_,_,hdt,aG hti h1 hm hW hr hy hx,hargs.trans ha,g1,DG k3,g2,Di k4,Nat.le_of_ble_eq_true k5,res,post,new,⟨rfl,rfl,rfl⟩,e2⟩
   ·cases h
  ·cases h
 ·cases h
end
noncomputable def mD (ti:Types) (rs:List ResultVar) (np:Nat):X4 En:=fun e σ=>match e with
 | .exit _=>none
 | .normal=>Aj (PI (AH σ.slots DT)) (GK ti rs np σ fun x=>some (.ret x))
 | .ret=>Aj (PI (AH σ.slots DT)) (GK ti rs np σ fun x=>some (.ret x))
noncomputable def mE (ti:Types) (rs:List ResultVar) (np:Nat):X4 En:=fun e σ=>match e with
 | .exit _=>none
 | .normal=>GK ti rs np σ fun x=>some (.ret x)
 | .ret=>GK ti rs np σ fun x=>some (.ret x)
noncomputable def mF (W:Fl) (ti:Types) (run:CB) (yl:CE) (rs:List ResultVar) (np:Nat):X4 En:=fun e σ=>match e with
 | .exit _=>none
 | _=>(match PI (AH σ.slots DT)with
  | true=>GK ti rs np σ fun x=>some (.ret x)
  | false=>UK W ti run yl rs np none σ)
def WW:Option En→Option En
 | some (.ret x)=>some (.ret x)
 | _=>none
theorem Oz {x:Option En}{e:En}(h:WW x=some e):x=some e∧∀v p n,e≠ .pan v p n:=by
 unfold WW at h
 split at h
 ·cases h;exact⟨rfl,fun v p n h=>by cases h⟩
 ·cases h
noncomputable def fZ (W:Fl) (ti:Types) (run:CB) (yl:CE) (f:Nat) (fn:Func) (c:Code) (args:List V1) (pre:List AB):Option En:=
 Aj (Nat.ble args.length fn.ntmps)<| (match W.md f with
  | 0=>Aj (Nat.ble fn.ntmps DT)<| Aj (Cc c)<| Oy W ti run yl f false (aE pre.length) (W.hi f) fn.ntmps c ⟨(DT,.df 0 [] [])::slotsOf args 0,A9 pre 0,0⟩ (mD ti fn.results.toList pre.length)
  | 1=>Aj (Nat.ble fn.ntmps DT)<| Aj (Cc c)<| WW<| Oy W ti run yl f true (fun v s h nx=>UK W ti run yl fn.results.toList pre.length (some v) ⟨s,h,nx⟩) (W.hi f) fn.ntmps c ⟨(DT,.df 0 [] [])::slotsOf args 0,A9 pre 0,0⟩ (mF W ti run yl fn.results.toList pre.length)
  | _=>WW<| Oy W ti run yl f false dZ (W.hi f) fn.ntmps c ⟨slotsOf args 0,A9 pre 0,0⟩ (mE ti fn.results.toList pre.length))
noncomputable def aI (W:Fl) (ti:Types) (run:CB) (yl:CE):CB:=fun f args pre=>match W.ext f args pre with
 | some e=>some e
 | none=>(match W.fns f with
  | none=>none
  | some fn=>(match fn.body with
   | none=>none
   | some c=>fZ W ti run yl f fn c args pre))
noncomputable def aJ (W:Fl) (ti:Types) (run:CB) (yl:CE):CE:=fun r sl args pre=>
 Aj (Nat.beq args.length r.params.size)<| Aj (BP (fun p=>Nat.blt p r.nt) r.params.toList)<|
  Oy W ti run yl 0 false dZ (fun _=>[]) r.nt r.assign ⟨Ps r.params.toList args sl,A9 pre 0,0⟩ fun e σ=>match e with
   | .normal=>Oy W ti run yl 0 false dZ (fun _=>[]) r.nt r.body σ fun e σ=>(match Lr pre.length σ.heap σ.next with
    | some x=>some (EB e,x.1,x.2)
    | none=>none)
   | _=>none
noncomputable def Vg (W:Fl) (ti:Types):Nat→CB×CE
 | 0=>(fun _ _ _=>none,fun _ _ _ _=>none)
 | n+1=>(aI W ti (Vg W ti n).1 (Vg W ti n).2,aJ W ti (Vg W ti n).1 (Vg W ti n).2)
noncomputable def mG (W:Fl) (ti:Types) (n:Nat):CB:=(Vg W ti n).1
section
variable {P:Program}{I:Inv}{ti:Types}(hti:Ao P ti) (h1:BB ti) (hm:P.follows .mixedOrders=true) {W:Fl}(hW:W.ok P I ti) {run:CB}{yl:CE}
include hti h1 hm hW
theorem aK (hr:run.ok P I) (hy:yl.ok P I):CB.ok P I (aI W ti run yl):=by
 intro f args pre e h
 unfold aI at h
 split at h
 ·rename_i x hx;cases h;exact hW.ext _ _ _ _ hx
 split at h
 ·cases h
 rename_i fn hfn
 obtain⟨hf,hname⟩:=hW.fns _ _ hfn
 split at h
 ·cases h
 rename_i c hb
 unfold fZ at h
 obtain⟨k1,h⟩:=AD h
 have fin0:∀(np:Nat) σ,(GK ti fn.results.toList np σ fun x=>some (.ret x))=some e→∃x:Jg,e= .ret x∧DZ ti fn.results.toList σ x.res x.post x.new:=by
  intro np σ h
  obtain⟨res,post,new,g2,g3⟩:=QT h
  cases g2
  exact⟨_,rfl,g3⟩
 split at h
 ·obtain⟨k2,h⟩:=AD h
  obtain⟨k3,h⟩:=AD h
  have K:∀e' σ,mD ti fn.results.toList pre.length e' σ=some e→∃x:Jg,e= .ret x∧AH σ.slots DT= .df 0 [] []∧DZ ti fn.results.toList σ x.res x.post x.new∧(∀id,e'≠ .exit id):=by
   intro e' σ h
   cases e' with
   | exit id=>cases h
   | normal=>obtain⟨g1,h⟩:=AD h;obtain⟨x,a,b⟩:=fin0 _ σ h;exact⟨x,a,HG g1,b,fun id h=>by cases h⟩
   | ret=>obtain⟨g1,h⟩:=AD h;obtain⟨x,a,b⟩:=fin0 _ σ h;exact⟨x,a,HG g1,b,fun id h=>by cases h⟩
  cases e with
  | ret x=>
   refine Bk.kB (fun M nt=>Cr ti M nt) hti h1 (Ik hti h1 hm) hf hb hname (Nat.le_of_ble_eq_true k1) (Nat.le_of_ble_eq_true k2) k3 0 [] fun M hP hI hcl=>?_
   refine EK hW hr hy hP hI (fun h=>by cases h) (fun v s h nx hp=>?_) (fun e' σ he=>?_) h
   ·obtain⟨_,_,hp,_⟩:=UJ hp;cases hp
   ·obtain⟨y,g1,g2,g3,g4⟩:=K e' σ he
    cases g1
    cases e' with
    | exit id=>exact g4 id rfl
    | normal=>exact⟨[],⟨σ,A8.refl _,_,_,_,⟨rfl,rfl,rfl⟩,g3⟩,g2⟩
    | ret=>exact⟨[],⟨σ,A8.refl _,_,_,_,⟨rfl,rfl,rfl⟩,g3⟩,g2⟩
  | pan v post new=>
   refine Iu.intro (fun M nt=>Cr ti M nt) hti h1 (Ik hti h1 hm) hf hb hname (Nat.le_of_ble_eq_true k1) (Nat.le_of_ble_eq_true k2) k3 fun M hP hI hcl hpn=>?_
   refine EK hW hr hy hP hI (fun h=>by cases h) (fun v' s h nx hp=>?_) (fun e' σ he=>?_) h
   ·obtain⟨_,_,g1,g2,g3⟩:=UJ hp
    cases g1
    exact hpn s h nx g2 g3
   ·obtain⟨y,g1,_⟩:=K e' σ he
    cases g1
 ·obtain⟨k2,h⟩:=AD h
  obtain⟨k3,h⟩:=AD h
  obtain⟨h,hno⟩:=Oz h
  have K:∀e' σ,mF W ti run yl fn.results.toList pre.length e' σ=some e→(∀id,e'≠ .exit id)∧((AH σ.slots DT= .df 0 [] []∧∃x:Jg,e= .ret x∧DZ ti fn.results.toList σ x.res x.post x.new)∨∃x:Jg,e= .ret x∧fU P I ti fn.results.toList (fun r p n=>r=x.res∧p=x.post∧n=x.new) none σ):=by
   intro e' σ h
   have go:(match PI (AH σ.slots DT)with
     | true=>GK ti fn.results.toList pre.length σ fun x=>some (.ret x)
     | false=>UK W ti run yl fn.results.toList pre.length none σ)=some e→((AH σ.slots DT= .df 0 [] []∧∃x:Jg,e= .ret x∧DZ ti fn.results.toList σ x.res x.post x.new)∨∃x:Jg,e= .ret x∧fU P I ti fn.results.toList (fun r p n=>r=x.res∧p=x.post∧n=x.new) none σ):=by
    intro h
    split at h
    ·rename_i hd;obtain⟨x,a,b⟩:=fin0 _ σ h;exact .inl ⟨HG hd,x,a,b⟩
    ·exact .inr (UL hti h1 hm hW hr hy h)
   cases e' with
   | exit id=>cases h
   | normal=>exact⟨fun id h=>(by cases h),go h⟩
   | ret=>exact⟨fun id h=>(by cases h),go h⟩
  cases e with
  | ret x=>
   refine Bk.kC (fun M nt=>Cr ti M nt) hti h1 (Ik hti h1 hm) hf hb hname (Nat.le_of_ble_eq_true k1) (Nat.le_of_ble_eq_true k2) k3 fun M hP hI hcl hpn=>?_
   refine EK hW hr hy hP hI (fun _=>hcl) (fun v s h nx hp=>?_) (fun e' σ he=>?_) h
   ·obtain⟨y,g1,g2⟩:=UL hti h1 hm hW hr hy hp
    cases g1
    exact hpn v s h nx g2
   ·obtain⟨g0,g⟩:=K e' σ he
    refine⟨g0,?_⟩
    rcases g with⟨g1,y,g2,g3⟩ | ⟨y,g2,g3⟩
    ·cases g2;exact .inl ⟨g1,_,_,_,⟨rfl,rfl,rfl⟩,g3⟩
    ·cases g2;exact .inr g3
  | pan v post new=>
   exact absurd rfl (hno v post new)
 ·obtain⟨h,hno⟩:=Oz h
  have K:∀e' σ,mE ti fn.results.toList pre.length e' σ=some e→∃x:Jg,e= .ret x∧DZ ti fn.results.toList σ x.res x.post x.new∧(∀id,e'≠ .exit id):=by
   intro e' σ h
   cases e' with
   | exit id=>cases h
   | normal=>obtain⟨x,a,b⟩:=fin0 _ σ h;exact⟨x,a,b,fun id h=>by cases h⟩
   | ret=>obtain⟨x,a,b⟩:=fin0 _ σ h;exact⟨x,a,b,fun id h=>by cases h⟩
  cases e with
  | ret x=>
   refine Bk.intro (fun M nt=>Cr ti M nt) hti h1 (Ik hti h1 hm) hf hb hname (Nat.le_of_ble_eq_true k1) fun M hP hI=>?_
   refine EK hW hr hy hP hI (fun h=>by cases h) (fun v s h nx hp=>(by cases hp)) (fun e' σ he=>?_) h
   obtain⟨y,g1,g3,g4⟩:=K e' σ he
   cases g1
   cases e' with
   | exit id=>exact g4 id rfl
   | normal=>exact⟨_,_,_,⟨rfl,rfl,rfl⟩,g3⟩
   | ret=>exact⟨_,_,_,⟨rfl,rfl,rfl⟩,g3⟩
  | pan v post new=>
   exact absurd rfl (hno v post new)
theorem aL (hr:run.ok P I) (hy:yl.ok P I):CE.ok P I (aJ W ti run yl):=by
 intro r sl args pre j post new h
 unfold aJ at h
 obtain⟨k1,h⟩:=AD h
 obtain⟨k2,h⟩:=AD h
 refine Gv.intro (fun M nt=>Cr ti M nt) hti h1 (Ik hti h1 hm) (Nat.eq_of_beq_eq_true k1) k2 fun M hP hI=>?_
 refine EK hW hr hy hP hI (fun h=>by cases h) (fun v s h nx hp=>(by cases hp)) (fun e σ he=>?_) h
 cases e with
 | exit id=>cases he
 | ret=>cases he
 | normal=>
  refine EK hW hr hy hP hI (fun h=>by cases h) (fun v s h nx hp=>(by cases hp)) (fun e σ he=>?_) he
  split at he
  ·rename_i x hx
   cases he
   exact⟨_,_,⟨rfl,rfl,rfl⟩,[],Im hx⟩
  ·cases he
theorem Kp:∀(n:Nat),CB.ok P I (Vg W ti n).1∧CE.ok P I (Vg W ti n).2
 | 0=>⟨fun _ _ _ _ h=>(by cases h),fun _ _ _ _ _ _ _ h=>(by cases h)⟩
 | n+1=>⟨aK hti h1 hm hW (Kp n).1 (Kp n).2,aL hti h1 hm hW (Kp n).1 (Kp n).2⟩
theorem eB (n:Nat) (f:FuncId) (args:List V1) (pre:List AB) (e:En) (h:mG W ti n f args pre=some e):e.ok P I f args pre:=(Kp hti h1 hm hW n).1 _ _ _ _ h
end
end Go.AM
noncomputable section
namespace Go.Proofs.YtaomkgkdfafiiaaGreatDoor
open Go Go.AM
noncomputable def pD:List (Nat×Func):=[(5,Tryz.f5),(6,Tryz.f6),(7,Tryz.f7),(8,Tryz.f8),(9,Tryz.f9),(10,Tryz.f10),(12,Tryz.f12),(15,Tryz.f15),(17,Tryz.f17),(18,Tryz.f18),(19,Tryz.f19),(20,Tryz.f20),(21,Tryz.f21),(22,Tryz.f22),(24,Tryz.f24),(25,Tryz.f25),(26,Tryz.f26),(27,Tryz.f27),(29,Tryz.f29),(33,Tryz.f33),(34,Tryz.f34),(35,Tryz.f35),(36,Tryz.f36),(40,Tryz.f40),(41,Tryz.f41),(42,Tryz.f42),(43,Tryz.f43),(44,Tryz.f44),(48,Tryz.f48),(50,Tryz.f50),(51,Tryz.f51),(59,Tryz.f59),(63,Tryz.f63),(87,Tryz.f87),(88,Tryz.f88),(90,Tryz.f90),(91,Tryz.f91),(95,Tryz.f95),(96,Tryz.f96),(97,Tryz.f97),(98,Tryz.f98),(100,Tryz.f100),(106,Tryz.f106),(111,Tryz.f111),(112,Tryz.f112),(113,Tryz.f113),(114,Tryz.f114),(116,Tryz.f116),(120,Tryz.f120),(124,Tryz.f124),(128,Tryz.f128),(130,Tryz.f130),(152,Tryz.f152),(156,Tryz.f156),(157,Tryz.f157),(158,Tryz.f158),(159,Tryz.f159),(160,Tryz.f160),(161,Tryz.f161),(162,Tryz.f162),(163,Tryz.f163),(169,Tryz.f169),(174,Tryz.f174),(189,Tryz.f189),(190,Tryz.f190),(192,Tryz.f192),(193,Tryz.f193),(194,Tryz.f194),(223,Tryz.f223),(226,Tryz.f226),(227,Tryz.f227),(228,Tryz.f228),(229,Tryz.f229),(237,Tryz.f237),(238,Tryz.f238),(239,Tryz.f239),(240,Tryz.f240)]
noncomputable def look {α:Type}:List (Nat×α)→Nat→Option α
 | [],_=>none
 | (k,x)::l,f=>(match Nat.beq k f with
  | true=>some x
  | false=>look l f)
noncomputable def aN (f:Nat) (ag:Bool) (sz:Nat):Bool:=
 match ag with
 | true=>(Nat.beq f 126&&Nat.beq sz 6) || (Nat.beq f 196&&Nat.beq sz 4)
 | false=>(Nat.beq f 28 || Nat.beq f 195)&&Nat.beq sz 1
noncomputable def aO (l:List D) (sep:ByteArray):Option En:=
 match N9 l with
 | some xs=>Aj (Nat.ble xs.length 1000000)<| Aj (Nat.ble (Lib.join (xs.map (·.data.toList)) sep.data.toList).length 1000000)<| some (.ret ⟨.v (.d (.str (Ef xs sep))),[],[]⟩)
 | none=>none
noncomputable def jV:CB:=fun f args pre=>match args,pre with
 | [x],[]=>(match Nat.beq f 28 || (Nat.beq f 126 || (Nat.beq f 195 || Nat.beq f 196))with
   | true=>(match x.norm with
    | .d (.list ag sz rows)=>Aj (aN f ag sz)<| Aj (Nat.ble rows.length 1000000)<| some (.ret ⟨.v (.d (.list ag sz rows)),[],[]⟩)
    | _=>none)
   | false=>none)
 | [x,y],[]=>(match Nat.beq f 37 with
   | true=>(match x.norm,y.norm with
    | .d (.list ag sz rows),.d (.str sep)=>Aj (BQ ag)<| Aj (Nat.beq sz 1)<| aO rows sep
    | _,_=>none)
   | false=>none)
 | _,_=>none
noncomputable def W7:Fl:=⟨look pD,jV,fun f=>Nat.beq f 48,fun f=>Nat.beq f 130 || Nat.beq f 162,fun _=>false,fun f p=>match Nat.beq f 157&&Nat.beq p 29903 with
 | true=>[.cell 5 3]
 | false=>[],1000,fun f=>match Nat.beq f 7 with
 | true=>1
 | false=>(match Nat.beq f 27 || Nat.beq f 23 with
  | true=>2
  | false=>0),fun _=>[],true⟩
def oG (x:Nat×Func):Prop:=Tryz.prog.funcs[x.1]?=some x.2∧(x.2.name== "runtime.NumGoroutine")=false
def aP:List (Nat×Func)→Prop
 | []=>True
 | x::l=>oG x∧aP l
theorem look_ok:∀{l:List (Nat×Func)}{f:Nat}{fn:Func},aP l→look l f=some fn→Tryz.prog.funcs[f]?=some fn∧(fn.name== "runtime.NumGoroutine")=false
 | [],f,fn,_,h=>by cases h
 | (k,x)::l,f,fn,hl,h=>by
  unfold look at h
  split at h
  ·rename_i hb
   cases h
   have e:=Nat.eq_of_beq_eq_true hb
   subst e
   exact hl.1
  ·exact look_ok hl.2 h
theorem jW:aP pD:=⟨⟨Tryz.func5,by kernel_rfl⟩,⟨⟨Tryz.func6,by kernel_rfl⟩,⟨⟨Tryz.func7,by kernel_rfl⟩,⟨⟨Tryz.func8,by kernel_rfl⟩,⟨⟨Tryz.func9,by kernel_rfl⟩,⟨⟨Tryz.func10,by kernel_rfl⟩,⟨⟨Tryz.func12,by kernel_rfl⟩,⟨⟨Tryz.func15,by kernel_rfl⟩,⟨⟨Tryz.func17,by kernel_rfl⟩,⟨⟨Tryz.func18,by kernel_rfl⟩,⟨⟨Tryz.func19,by kernel_rfl⟩,⟨⟨Tryz.func20,by kernel_rfl⟩,⟨⟨Tryz.func21,by kernel_rfl⟩,⟨⟨Tryz.func22,by kernel_rfl⟩,⟨⟨Tryz.func24,by kernel_rfl⟩,⟨⟨Tryz.func25,by kernel_rfl⟩,⟨⟨Tryz.func26,by kernel_rfl⟩,⟨⟨Tryz.func27,by kernel_rfl⟩,⟨⟨Tryz.func29,by kernel_rfl⟩,⟨⟨Tryz.func33,by kernel_rfl⟩,⟨⟨Tryz.func34,by kernel_rfl⟩,⟨⟨Tryz.func35,by kernel_rfl⟩,⟨⟨Tryz.func36,by kernel_rfl⟩,⟨⟨Tryz.func40,by kernel_rfl⟩,⟨⟨Tryz.func41,by kernel_rfl⟩,⟨⟨Tryz.func42,by kernel_rfl⟩,⟨⟨Tryz.func43,by kernel_rfl⟩,⟨⟨Tryz.func44,by kernel_rfl⟩,⟨⟨Tryz.func48,by kernel_rfl⟩,⟨⟨Tryz.func50,by kernel_rfl⟩,⟨⟨Tryz.func51,by kernel_rfl⟩,⟨⟨Tryz.func59,by kernel_rfl⟩,⟨⟨Tryz.func63,by kernel_rfl⟩,⟨⟨Tryz.func87,by kernel_rfl⟩,⟨⟨Tryz.func88,by kernel_rfl⟩,⟨⟨Tryz.func90,by kernel_rfl⟩,⟨⟨Tryz.func91,by kernel_rfl⟩,⟨⟨Tryz.func95,by kernel_rfl⟩,⟨⟨Tryz.func96,by kernel_rfl⟩,⟨⟨Tryz.func97,by kernel_rfl⟩,⟨⟨Tryz.func98,by kernel_rfl⟩,⟨⟨Tryz.func100,by kernel_rfl⟩,⟨⟨Tryz.func106,by kernel_rfl⟩,⟨⟨Tryz.func111,by kernel_rfl⟩,⟨⟨Tryz.func112,by kernel_rfl⟩,⟨⟨Tryz.func113,by kernel_rfl⟩,⟨⟨Tryz.func114,by kernel_rfl⟩,⟨⟨Tryz.func116,by kernel_rfl⟩,⟨⟨Tryz.func120,by kernel_rfl⟩,⟨⟨Tryz.func124,by kernel_rfl⟩,⟨⟨Tryz.func128,by kernel_rfl⟩,⟨⟨Tryz.func130,by kernel_rfl⟩,⟨⟨Tryz.func152,by kernel_rfl⟩,⟨⟨Tryz.func156,by kernel_rfl⟩,⟨⟨Tryz.func157,by kernel_rfl⟩,⟨⟨Tryz.func158,by kernel_rfl⟩,⟨⟨Tryz.func159,by kernel_rfl⟩,⟨⟨Tryz.func160,by kernel_rfl⟩,⟨⟨Tryz.func161,by kernel_rfl⟩,⟨⟨Tryz.func162,by kernel_rfl⟩,⟨⟨Tryz.func163,by kernel_rfl⟩,⟨⟨Tryz.func169,by kernel_rfl⟩,⟨⟨Tryz.func174,by kernel_rfl⟩,⟨⟨Tryz.func189,by kernel_rfl⟩,⟨⟨Tryz.func190,by kernel_rfl⟩,⟨⟨Tryz.func192,by kernel_rfl⟩,⟨⟨Tryz.func193,by kernel_rfl⟩,⟨⟨Tryz.func194,by kernel_rfl⟩,⟨⟨Tryz.func223,by kernel_rfl⟩,⟨⟨Tryz.func226,by kernel_rfl⟩,⟨⟨Tryz.func227,by kernel_rfl⟩,⟨⟨Tryz.func228,by kernel_rfl⟩,⟨⟨Tryz.func229,by kernel_rfl⟩,⟨⟨Tryz.func237,by kernel_rfl⟩,⟨⟨Tryz.func238,by kernel_rfl⟩,⟨⟨Tryz.func239,by kernel_rfl⟩,⟨⟨Tryz.func240,by kernel_rfl⟩,trivial⟩⟩⟩⟩⟩⟩⟩⟩⟩⟩⟩⟩⟩⟩⟩⟩⟩⟩⟩⟩⟩⟩⟩⟩⟩⟩⟩⟩⟩⟩⟩⟩⟩⟩⟩⟩⟩⟩⟩⟩⟩⟩⟩⟩⟩⟩⟩⟩⟩⟩⟩⟩⟩⟩⟩⟩⟩⟩⟩⟩⟩⟩⟩⟩⟩⟩⟩⟩⟩⟩⟩⟩⟩⟩⟩⟩⟩
theorem UM {P:Program}{I:Inv}{f:FuncId}{args:List V1}{pre:List AB}{Q:AV→List AB→List AB→Prop}(h:Bk P I f (args.map V1.norm) pre Q):Bk P I f args pre Q:=
 ⟨h.1,fun w X g vals h1 h2 h3 h4 h5 h6=>h.2 w X g vals h1 h2 h3 h4 (by simpa using h5) fun j x v hx hv=>by
  rw[List.getElem?_map,Option.map_eq_some_iff]at hx
  obtain⟨y,hy,rfl⟩:=hx
  exact (h6 j y v hy hv).norm⟩
theorem mH {P:Program}{I:Inv}{f:FuncId}{x:V1}{d:D}{pre:List AB}{Q:AV→List AB→List AB→Prop}(hx:x.norm= .d d) (h:Bk P I f [.d d] pre Q):Bk P I f [x] pre Q:=UM (by simp only[List.map_cons,List.map_nil,hx];exact h)
theorem aQ {l:List D}(h:l.length≤1000000):nA 2 l=some l:=by
 have e:ME 2 l false=some l:=by
  show (if false=true then some ([]:List D)else Ed 8 [] l fun l3=>some l3)=some l
  rw[if_neg (by simp)]
  unfold Ed
  rw[if_pos (by simp only[List.length_nil,Nat.zero_add,maxLen];constructor<;>omega)]
  simp
 unfold nA
 rw[Mi (fun hl=>?_)]
 ·exact e
 ·rw[e,hl];rfl
theorem Xq {l:List D}(h:l.length≤1000000):dA 2 l=some l:=by
 have e:Hv 2 l false=some l:=by
  show (if false=true then some ([]:List D)else Ed 88 [] l fun l3=>some l3)=some l
  rw[if_neg (by simp)]
  unfold Ed
  rw[if_pos (by simp only[List.length_nil,Nat.zero_add,maxLen];constructor<;>omega)]
  simp
 unfold dA
 rw[Mi (fun hl=>?_)]
 ·exact e
 ·rw[e,hl];rfl
theorem Xr {l:List D}(h:l.length≤1000000):dB 2 l=some l:=by
 have e:Hw 2 l false=some l:=by
  show (if false=true then some ([]:List D)else Ed 16 [] l fun l3=>some l3)=some l
  rw[if_neg (by simp)]
  unfold Ed
  rw[if_pos (by simp only[List.length_nil,Nat.zero_add,maxLen];constructor<;>omega)]
  simp
 unfold dB
 rw[Mi (fun hl=>?_)]
 ·exact e
 ·rw[e,hl];rfl
theorem Xs {l:List D}(h:l.length≤1000000):dC 2 l=some l:=by
 have e:Hx 2 l false=some l:=by
  show (if false=true then some ([]:List D)else Ed 64 [] l fun l3=>some l3)=some l
  rw[if_neg (by simp)]
  unfold Ed
  rw[if_pos (by simp only[List.length_nil,Nat.zero_add,maxLen];constructor<;>omega)]
  simp
 unfold dC
 rw[Mi (fun hl=>?_)]
 ·exact e
 ·rw[e,hl];rfl
theorem mI {P:Program}{I:Inv}{f:FuncId}{x y:V1}{d e:D}{pre:List AB}{Q:AV→List AB→List AB→Prop}(hx:x.norm= .d d) (hy:y.norm= .d e) (h:Bk P I f [.d d,.d e] pre Q):Bk P I f [x,y] pre Q:=UM (by simp only[List.map_cons,List.map_nil,hx,hy];exact h)
theorem aR {l:List D}{sep:ByteArray}{e:En}(h:aO l sep=some e):e.ok Tryz.prog inv 37 [.d (.list false 1 l),.d (.str sep)] []:=by
 unfold aO at h
 split at h
 ·rename_i xs hxs
  obtain⟨h1,h⟩:=AD h
  obtain⟨h2,h⟩:=AD h
  have h1:=Nat.le_of_ble_eq_true h1
  have h2:=Nat.le_of_ble_eq_true h2
  cases h
  refine oW 0 ?_
  unfold iT
  rw[hxs]
  simp only[]
  rw[if_pos ⟨by omega,by omega⟩]
 ·cases h
theorem eC:∀f args pre e,jV f args pre=some e→e.ok Tryz.prog inv f args pre:=by
 intro f args pre e h
 unfold jV at h
 split at h
 ·rename_i x
  split at h
  ·split at h
   ·rename_i ag sz rows hx
    obtain⟨h1,h⟩:=AD h
    obtain⟨h2,h⟩:=AD h
    have h2:=Nat.le_of_ble_eq_true h2
    cases h
    refine mH hx ?_
    unfold aN at h1
    cases ag with
    | true=>
     simp only[Bool.or_eq_true,Bool.and_eq_true]at h1
     rcases h1 with⟨a,b⟩ | ⟨a,b⟩
     ·have a:=Nat.eq_of_beq_eq_true a;have b:=Nat.eq_of_beq_eq_true b;subst a;subst b;exact nW 2 (Xq h2)
     ·have a:=Nat.eq_of_beq_eq_true a;have b:=Nat.eq_of_beq_eq_true b;subst a;subst b;exact nY 2 (Xs h2)
    | false=>
     simp only[Bool.or_eq_true,Bool.and_eq_true]at h1
     obtain⟨a | a,b⟩:=h1
     ·have a:=Nat.eq_of_beq_eq_true a;have b:=Nat.eq_of_beq_eq_true b;subst a;subst b;exact pM 2 (aQ h2)
     ·have a:=Nat.eq_of_beq_eq_true a;have b:=Nat.eq_of_beq_eq_true b;subst a;subst b;exact nX 2 (Xr h2)
   ·cases h
  ·cases h
 ·rename_i x y
  split at h
  ·rename_i hf
   have hf:=Nat.eq_of_beq_eq_true hf
   subst hf
   split at h
   ·rename_i ag sz rows sep hx hy
    obtain⟨h1,h⟩:=AD h
    obtain⟨h2,h⟩:=AD h
    have h2:=Nat.eq_of_beq_eq_true h2
    cases ag with
    | true=>cases h1
    | false=>
     subst h2
     have h:=aR h
     cases e with
     | ret z=>exact mI hx hy h
     | pan v p n=>
      refine⟨h.1,fun w X g vals k1 k2 k3 k4 k5 k6=>h.2 w X g vals k1 k2 k3 k4 k5 fun j z v hz hv=>?_⟩
      match j with
      | 0=>simp at hz;subst hz;have:=(k6 0 x v rfl hv).norm;rw[hx]at this;exact this
      | 1=>simp at hz;subst hz;have:=(k6 1 y v rfl hv).norm;rw[hy]at this;exact this
      | j+2=>simp at hz
   ·cases h
  ·cases h
 ·cases h
theorem mJ:W7.ok Tryz.prog inv US:=⟨fun f fn h=>look_ok jW h,eC,fun t i fs h=>by cases h⟩
end Go.Proofs.YtaomkgkdfafiiaaGreatDoor
end
noncomputable section
namespace Go.Proofs.YtaomkgkdfafiiaaGreatDoor
open Go Go.AM
set_option maxRecDepth 1000000 in
theorem Xt:mG W7 US 30 17 [] []=some (.ret ⟨.v (.d (.bool true)),[],[]⟩):=by kernel_rfl
def oH (n:Nat):Option Bool:=some true
theorem pO (n:Nat):∀⦃r1:Bool⦄,oH n=some r1→Bf Tryz.prog inv 17 [] [] (.v (.d (.bool r1))) [] []:=by
 intro r1 h
 cases h
 exact eB Dp DE XL mJ 30 17 _ _ _ Xt
end Go.Proofs.YtaomkgkdfafiiaaGreatDoor
end
set_option maxRecDepth 100000
set_option maxHeartbeats 40000000
set_option linter.unusedVariables false
noncomputable section
namespace Go.Proofs.YtaomkgkdfafiiaaGreatDoor
open Go Go.AM
mutual
def PJ:Nat→Int→Int→Int→Int→Int→(List D)→Int→Int→Option (Bool)
 | 0,_,_,_,_,_,_,_,_=>none
 | n+1,z1,z2,z3,z4,z5,l7,z11,z12=>
  Q9 l7 fun z13=>(if z12<z13 then SM n z1 z2 z3 z4 z5 l7 z11 z12 true else SM n z1 z2 z3 z4 z5 l7 z11 z12 false)
def SM:Nat→Int→Int→Int→Int→Int→(List D)→Int→Int→Bool→Option (Bool)
 | 0,_,_,_,_,_,_,_,_,_=>none
 | n+1,z1,z2,z3,z4,z5,l7,z11,z12,b14=>
  (if b14=true then MR l7 z12 fun x15=>RC x15 fun z16=>(if z16=z12 then UN n z1 z2 z3 z4 z5 l7 z11 z12 false else UN n z1 z2 z3 z4 z5 l7 z11 z12 true)else Q9 l7 fun z19=>(if z19=z11 then bO1 (cY n z1 z2 z3 z4 z5) fun s20=>bO1 (cZ n z1 z2 z3 z4 z5) fun s21=>(if s20=s21 then bO1 (oH n) fun b22=>some b22 else some false)else some false))
def UN:Nat→Int→Int→Int→Int→Int→(List D)→Int→Int→Bool→Option (Bool)
 | 0,_,_,_,_,_,_,_,_,_=>none
 | n+1,z1,z2,z3,z4,z5,l7,z11,z12,b17=>
  (if b17=true then some false else DL (IntKind.wrap .i64 (z12+1)) fun z18=>PJ n z1 z2 z3 z4 z5 l7 z11 z18)
end
def SN:Nat→Int→Int→Int→Int→Int→(List D)→Int→Option (Bool)
 | 0,_,_,_,_,_,_,_=>none
 | n+1,z1,z2,z3,z4,z5,l7,z11=>
  PJ n z1 z2 z3 z4 z5 l7 z11 (0:Int)
def PK:Nat→Int→Int→Int→Int→Int→(List D)→Int→Bool→Option (Bool)
 | 0,_,_,_,_,_,_,_,_=>none
 | n+1,z1,z2,z3,z4,z5,l7,z9,b10=>
  (if b10=true then SN n z1 z2 z3 z4 z5 l7 (5000:Int)else SN n z1 z2 z3 z4 z5 l7 z9)
def PL:Nat→Int→Int→Int→Int→Int→Int→(List D)→Int→Option (Bool)
 | 0,_,_,_,_,_,_,_,_=>none
 | n+1,z1,z2,z3,z4,z5,z6,l7,z9=>
  (if (5000:Int)<z6 then PK n z1 z2 z3 z4 z5 l7 z9 true else PK n z1 z2 z3 z4 z5 l7 z9 false)
def SO:Nat→Int→Int→Int→Int→Int→Int→(List D)→Bool→Option (Bool)
 | 0,_,_,_,_,_,_,_,_=>none
 | n+1,z1,z2,z3,z4,z5,z6,l7,b8=>
  (if b8=true then PL n z1 z2 z3 z4 z5 z6 l7 (0:Int)else PL n z1 z2 z3 z4 z5 z6 l7 z6)
def F4 (n:Nat) (z1:Int) (z2:Int) (z3:Int) (z4:Int) (z5:Int) (z6:Int):Option (Bool):=
 bO1 (lN n z6) fun l7=>(if z6<(0:Int)then SO n z1 z2 z3 z4 z5 z6 l7 true else SO n z1 z2 z3 z4 z5 z6 l7 false)
theorem T4 (n:Nat):∀⦃z1:Int⦄ ⦃z2:Int⦄ ⦃z3:Int⦄ ⦃z4:Int⦄ ⦃z5:Int⦄ ⦃z6:Int⦄ ⦃r1:Bool⦄,F4 n z1 z2 z3 z4 z5 z6=some r1→
    Bf Tryz.prog inv 4 [.d (.agg [.int .u8 z1,.int .i64 z2,.int .i64 z3,.int .u8 z4,.int .i64 z5]),.d (.int .i64 z6)] [] (.v (.d (.bool r1))) [] []:=by
 intro z1 z2 z3 z4 z5 z6 r1 h
 unfold F4 at h
 refine Bf.of Dp DE XL Tryz.func4 rfl (by kernel_rfl) rfl rfl rfl (fun M hM hI=>?_)
 try cbv
 refine Ap ?_
 try cbv
 refine Ap ?_
 try cbv
 replace h:=CJ h
 obtain⟨l7,hr,h⟩:=h
 refine E0 rfl rfl ?_
 try cbv
 refine⟨true,?_⟩
 try cbv
 refine BU hM hI (pI _ hr) rfl ?_
 clear hr
 try cbv
 refine Ap ?_
 try cbv
 refine Ax (T:=Nat×Int) (fun t=>⟨[(1,.v (.d (.int .i64 z6))),(2,.v (.c (.ptr (.loc 0) 0))),(4,.v (.d (.bool false))),(5,.v (.d (.list false 1 l7))),(6,.v (.d (.int .i64 t.2)))],[(.loc 0,.cells [.d (.int .u8 z1),.d (.int .i64 z2),.d (.int .i64 z3),.d (.int .u8 z4),.d (.int .i64 z5)])],320⟩) (fun t=>t.1≤n∧PL t.1 z1 z2 z3 z4 z5 z6 l7 t.2=some r1) ?_ ?_
 ·try cbv
  refine Ax (T:=Nat×Bool) (fun t=>⟨[(1,.v (.d (.int .i64 z6))),(2,.v (.c (.ptr (.loc 0) 0))),(4,.v (.d (.bool false))),(5,.v (.d (.list false 1 l7))),(6,.v (.d (.int .i64 z6))),(12,.v (.d (.bool t.2)))],[(.loc 0,.cells [.d (.int .u8 z1),.d (.int .i64 z2),.d (.int .i64 z3),.d (.int .u8 z4),.d (.int .i64 z5)])],288⟩) (fun t=>t.1≤n∧SO t.1 z1 z2 z3 z4 z5 z6 l7 t.2=some r1) ?_ ?_
  ·try cbv
   refine FT (fun e=>?_) (fun e=>?_)
   ·replace h:=BF e h
    clear e
    try cbv
    exact AO (n,true) [1,2,4,5,6,12] [.loc 0] 288 ⟨by omega,h⟩ (by cbv)
   replace h:=BG (Int.not_lt.2 e) h
   clear e
   try cbv
   exact AO (n,false) [1,2,4,5,6,12] [.loc 0] 288 ⟨by omega,h⟩ (by cbv)
  clear h
  rintro⟨m1,b8⟩ ⟨hm1,h⟩
  replace hm1:m1≤n:=hm1
  obtain _ | m1:=m1
  ·replace h:SO 0 z1 z2 z3 z4 z5 z6 l7 b8=some r1:=h
   rw[SO]at h
   cases h
  replace h:SO (m1+1) z1 z2 z3 z4 z5 z6 l7 b8=some r1:=h
  rw[SO]at h
  try cbv
  cases b8
  ·replace h:=BG Bool.false_ne_true h
   try cbv
   exact AO (m1,z6) [1,2,4,5,6] [.loc 0] 320 ⟨by omega,h⟩ (by cbv)
  replace h:=BF rfl h
  try cbv
  exact AO (m1,(0:Int)) [1,2,4,5,6] [.loc 0] 320 ⟨by omega,h⟩ (by cbv)
 clear h
 rintro⟨m2,z9⟩ ⟨hm2,h⟩
 replace hm2:m2≤n:=hm2
 obtain _ | m2:=m2
 ·replace h:PL 0 z1 z2 z3 z4 z5 z6 l7 z9=some r1:=h
  rw[PL]at h
  cases h
 replace h:PL (m2+1) z1 z2 z3 z4 z5 z6 l7 z9=some r1:=h
 rw[PL]at h
 try cbv
 refine Ax (T:=Nat×Int) (fun t=>⟨[(2,.v (.c (.ptr (.loc 0) 0))),(4,.v (.d (.bool false))),(5,.v (.d (.list false 1 l7))),(6,.v (.d (.int .i64 t.2)))],[(.loc 0,.cells [.d (.int .u8 z1),.d (.int .i64 z2),.d (.int .i64 z3),.d (.int .u8 z4),.d (.int .i64 z5)])],416⟩) (fun t=>t.1≤m2∧SN t.1 z1 z2 z3 z4 z5 l7 t.2=some r1) ?_ ?_
 ·try cbv
  refine Ax (T:=Nat×Bool) (fun t=>⟨[(2,.v (.c (.ptr (.loc 0) 0))),(4,.v (.d (.bool false))),(5,.v (.d (.list false 1 l7))),(6,.v (.d (.int .i64 z9))),(14,.v (.d (.bool t.2)))],[(.loc 0,.cells [.d (.int .u8 z1),.d (.int .i64 z2),.d (.int .i64 z3),.d (.int .u8 z4),.d (.int .i64 z5)])],384⟩) (fun t=>t.1≤m2∧PK t.1 z1 z2 z3 z4 z5 l7 z9 t.2=some r1) ?_ ?_
  ·try cbv
   refine FT (fun e=>?_) (fun e=>?_)
   ·replace h:=BF e h
    clear e
    try cbv
    exact AO (m2,true) [2,4,5,6,14] [.loc 0] 384 ⟨by omega,h⟩ (by cbv)
   replace h:=BG (Int.not_lt.2 e) h
   clear e
   try cbv
   exact AO (m2,false) [2,4,5,6,14] [.loc 0] 384 ⟨by omega,h⟩ (by cbv)
  clear h
  rintro⟨m3,b10⟩ ⟨hm3,h⟩
  replace hm3:m3≤m2:=hm3
  obtain _ | m3:=m3
  ·replace h:PK 0 z1 z2 z3 z4 z5 l7 z9 b10=some r1:=h
   rw[PK]at h
   cases h
  replace h:PK (m3+1) z1 z2 z3 z4 z5 l7 z9 b10=some r1:=h
  rw[PK]at h
  try cbv
  cases b10
  ·replace h:=BG Bool.false_ne_true h
   try cbv
   exact AO (m3,z9) [2,4,5,6] [.loc 0] 416 ⟨by omega,h⟩ (by cbv)
  replace h:=BF rfl h
  try cbv
  exact AO (m3,(5000:Int)) [2,4,5,6] [.loc 0] 416 ⟨by omega,h⟩ (by cbv)
 clear h
 rintro⟨m4,z11⟩ ⟨hm4,h⟩
 replace hm4:m4≤m2:=hm4
 obtain _ | m4:=m4
 ·replace h:SN 0 z1 z2 z3 z4 z5 l7 z11=some r1:=h
  rw[SN]at h
  cases h
 replace h:SN (m4+1) z1 z2 z3 z4 z5 l7 z11=some r1:=h
 rw[SN]at h
 try cbv
 refine Ap ?_
 try cbv
 refine Ap ?_
 try cbv
 refine Y0 (T:=Nat×Int) [2,4,5,6,7] [.loc 0] 448 (fun t=>⟨[(2,.v (.c (.ptr (.loc 0) 0))),(4,.v (.d (.bool false))),(5,.v (.d (.list false 1 l7))),(6,.v (.d (.int .i64 z11))),(7,.v (.d (.int .i64 t.2)))],[(.loc 0,.cells [.d (.int .u8 z1),.d (.int .i64 z2),.d (.int .i64 z3),.d (.int .u8 z4),.d (.int .i64 z5)])],448⟩)
   (fun t=>t.1≤m4∧PJ t.1 z1 z2 z3 z4 z5 l7 z11 t.2=some r1) (fun t=>t.1) (m4,(0:Int)) ⟨Nat.le_refl _,h⟩ (by cbv) ?_
 clear h
 rintro⟨m5,z12⟩ ⟨hm5,h⟩
 replace hm5:m5≤m4:=hm5
 obtain _ | m5:=m5
 ·replace h:PJ 0 z1 z2 z3 z4 z5 l7 z11 z12=some r1:=h
  rw[PJ]at h
  cases h
 replace h:PJ (m5+1) z1 z2 z3 z4 z5 l7 z11 z12=some r1:=h
 rw[PJ]at h
 try cbv
 refine Ap ?_
 try cbv
 refine Ax (T:=Nat×Bool) (fun t=>⟨[(2,.v (.c (.ptr (.loc 0) 0))),(4,.v (.d (.bool false))),(5,.v (.d (.list false 1 l7))),(6,.v (.d (.int .i64 z11))),(7,.v (.d (.int .i64 z12))),(18,.v (.d (.bool t.2)))],[(.loc 0,.cells [.d (.int .u8 z1),.d (.int .i64 z2),.d (.int .i64 z3),.d (.int .u8 z4),.d (.int .i64 z5)])],576⟩) (fun t=>t.1≤m5∧SM t.1 z1 z2 z3 z4 z5 l7 z11 z12 t.2=some r1) ?_ ?_
 ·try cbv
  replace h:=FU M h
  obtain⟨z13,hz,h⟩:=h
  refine⟨z13,hz,?_⟩
  clear hz
  try cbv
  refine FT (fun e=>?_) (fun e=>?_)
  ·replace h:=BF e h
   clear e
   try cbv
   exact AO (m5,true) [2,4,5,6,7,18] [.loc 0] 576 ⟨by omega,h⟩ (by cbv)
  replace h:=BG (Int.not_lt.2 e) h
  clear e
  try cbv
  exact AO (m5,false) [2,4,5,6,7,18] [.loc 0] 576 ⟨by omega,h⟩ (by cbv)
 clear h
 rintro⟨m6,b14⟩ ⟨hm6,h⟩
 replace hm6:m6≤m5:=hm6
 obtain _ | m6:=m6
 ·replace h:SM 0 z1 z2 z3 z4 z5 l7 z11 z12 b14=some r1:=h
  rw[SM]at h
  cases h
 replace h:SM (m6+1) z1 z2 z3 z4 z5 l7 z11 z12 b14=some r1:=h
 rw[SM]at h
 try cbv
 cases b14
 rotate_left
 ·replace h:=BF rfl h
  try cbv
  refine Ap ?_
  try cbv
  refine Ax (T:=Nat×Bool) (fun t=>⟨[(2,.v (.c (.ptr (.loc 0) 0))),(4,.v (.d (.bool false))),(5,.v (.d (.list false 1 l7))),(6,.v (.d (.int .i64 z11))),(7,.v (.d (.int .i64 z12))),(26,.v (.d (.bool t.2)))],[(.loc 0,.cells [.d (.int .u8 z1),.d (.int .i64 z2),.d (.int .i64 z3),.d (.int .u8 z4),.d (.int .i64 z5)])],768⟩) (fun t=>t.1≤m6∧UN t.1 z1 z2 z3 z4 z5 l7 z11 z12 t.2=some r1) ?_ ?_
  ·try cbv
   replace h:=Hl h
   obtain⟨x15,⟨hx0,hx⟩,h⟩:=h
   refine⟨x15,hx0,hx,?_⟩
   clear hx0 hx
   replace h:=Uy h
   obtain⟨z16,rfl,h⟩:=h
   try cbv
   refine Dr (fun e=>?_) (fun e=>?_)
   ·replace h:=BF e h
    clear e
    try cbv
    exact AO (m6,false) [2,4,5,6,7,26] [.loc 0] 768 ⟨by omega,h⟩ (by cbv)
   replace h:=BG e h
   clear e
   try cbv
   exact AO (m6,true) [2,4,5,6,7,26] [.loc 0] 768 ⟨by omega,h⟩ (by cbv)
  clear h
  rintro⟨m7,b17⟩ ⟨hm7,h⟩
  replace hm7:m7≤m6:=hm7
  obtain _ | m7:=m7
  ·replace h:UN 0 z1 z2 z3 z4 z5 l7 z11 z12 b17=some r1:=h
   rw[UN]at h
   cases h
  replace h:UN (m7+1) z1 z2 z3 z4 z5 l7 z11 z12 b17=some r1:=h
  rw[UN]at h
  try cbv
  cases b17
  ·replace h:=BG Bool.false_ne_true h
   try cbv
   replace h:=BO h
   obtain⟨z18,hz,h⟩:=h
   refine⟨z18,hz,?_⟩
   clear hz
   try cbv
   exact Pu (m7,z18) [2,4,5,6,7] [.loc 0] 448 ⟨by omega,h⟩ (Nat.lt_succ_of_le (by omega)) (by cbv)
  replace h:=BF rfl h
  try cbv
  refine Ap ?_
  try cbv
  obtain rfl:=Option.some.inj h
  refine Br ?_
  try cbv
  exact⟨[],rfl,rfl,trivial,trivial,trivial⟩
 replace h:=BG Bool.false_ne_true h
 try cbv
 refine Ap ?_
 try cbv
 replace h:=FU M h
 obtain⟨z19,hz,h⟩:=h
 refine⟨z19,hz,?_⟩
 clear hz
 try cbv
 refine Dr (fun e=>?_) (fun e=>?_)
 rotate_left
 ·replace h:=BG e h
  clear e
  try cbv
  refine drawn ?_ ?_
  ·show _=true
   kernel_rfl
  try cbv
  obtain rfl:=Option.some.inj h
  refine Br ?_
  try cbv
  exact⟨[],rfl,rfl,trivial,trivial,trivial⟩
 replace h:=BF e h
 clear e
 try cbv
 replace h:=CJ h
 obtain⟨s20,hr,h⟩:=h
 first | refine .inr (.inl ⟨[],?_⟩) | refine .inl ⟨[],?_⟩
 try cbv
 refine⟨true,?_⟩
 try cbv
 refine BU hM hI (pK _ hr) rfl ?_
 clear hr
 try cbv
 replace h:=CJ h
 obtain⟨s21,hr,h⟩:=h
 first | refine .inr (.inl ⟨[],?_⟩) | refine .inl ⟨[],?_⟩
 try cbv
 refine⟨true,?_⟩
 try cbv
 refine BU hM hI (pL _ hr) rfl ?_
 clear hr
 try cbv
 refine iP (fun e=>?_) (fun e=>?_)
 ·replace h:=BF (Cj.1 e) h
  clear e
  try cbv
  replace h:=CJ h
  obtain⟨b22,hr,h⟩:=h
  first | refine .inr (.inl ⟨[],?_⟩) | refine .inl ⟨[],?_⟩
  try cbv
  refine⟨true,?_⟩
  try cbv
  refine BU hM hI (pO _ hr) rfl ?_
  clear hr
  try cbv
  refine drawn ?_ ?_
  ·show _=true
   kernel_rfl
  try cbv
  obtain rfl:=Option.some.inj h
  refine Br ?_
  try cbv
  exact⟨[],rfl,rfl,trivial,trivial,trivial⟩
 replace h:=BG (Y6.1 e) h
 clear e
 try cbv
 refine drawn ?_ ?_
 ·show _=true
  kernel_rfl
 try cbv
 obtain rfl:=Option.some.inj h
 refine Br ?_
 try cbv
 exact⟨[],rfl,rfl,trivial,trivial,trivial⟩
end Go.Proofs.YtaomkgkdfafiiaaGreatDoor
end
set_option linter.unusedVariables false
noncomputable section
namespace Go.Proofs.YtaomkgkdfafiiaaGreatDoor
open Go Go.AM
theorem mK {l:List D}(h:l.length=5):∃x0 x1 x2 x3 x4,l=[x0,x1,x2,x3,x4]:=by
 match l,h with
 | [x0,x1,x2,x3,x4],_=>exact⟨x0,x1,x2,x3,x4,rfl⟩
theorem pP {x:D}(h:Tb US 3 x):∃a0,x= .int .i64 a0∧(Lit.int .i64 a0).wf=true:=by
 have hs:=h.mR (y:=fG US 3) (by kernel_rfl) rfl
 have hl:=hs.flat 9 3 [3] [x] (by kernel_rfl)
 obtain⟨a0,rfl,w0⟩:=(hl.2 0 x 3 rfl rfl).X1 (x:=fG US 3) (by kernel_rfl) rfl
 exact⟨_,rfl,w0⟩
theorem oI {x:D}(h:Tb US 54 x):∃a0 a1 a2 a3 a4,x= .agg [.int .u8 a0,.int .i64 a1,.int .i64 a2,.int .u8 a3,.int .i64 a4]∧(Lit.int .u8 a0).wf=true∧(Lit.int .i64 a1).wf=true∧(Lit.int .i64 a2).wf=true∧(Lit.int .u8 a3).wf=true∧(Lit.int .i64 a4).wf=true:=by
 obtain⟨cs,rfl,hs⟩:=h.agg (y:=fG US 54) (by kernel_rfl) rfl
 have hl:=hs.flat 9 54 [5,2,3,5,3] cs (by kernel_rfl)
 obtain⟨b0,b1,b2,b3,b4,rfl⟩:=mK hl.1
 obtain⟨a0,rfl,w0⟩:=(hl.2 0 b0 5 rfl rfl).X1 (x:=fG US 5) (by kernel_rfl) rfl
 obtain⟨a1,rfl,w1⟩:=(hl.2 1 b1 2 rfl rfl).X1 (x:=fG US 2) (by kernel_rfl) rfl
 obtain⟨a2,rfl,w2⟩:=(hl.2 2 b2 3 rfl rfl).X1 (x:=fG US 3) (by kernel_rfl) rfl
 obtain⟨a3,rfl,w3⟩:=(hl.2 3 b3 5 rfl rfl).X1 (x:=fG US 5) (by kernel_rfl) rfl
 obtain⟨a4,rfl,w4⟩:=(hl.2 4 b4 3 rfl rfl).X1 (x:=fG US 3) (by kernel_rfl) rfl
 exact⟨_,_,_,_,_,rfl,w0,w1,w2,w3,w4⟩
end Go.Proofs.YtaomkgkdfafiiaaGreatDoor
end
namespace Go.AM
open Go Go.RowKit Go.ChangeShapes Go.WideShapes
def Jc (ti:Types):List TypeId→List D→Prop
 | [],[]=>True
 | t::ts,x::xs=>Shape ti t x.cells∧(∀y,ti t=some y→x.isAgg=AU y.desc)∧Jc ti ts xs
 | _,_=>False
theorem Jc.length {ti:Types}:∀{ts:List TypeId}{xs:List D},Jc ti ts xs→xs.length=ts.length
 | [],[],_=>rfl
 | _::_,_::_,h=>by simp[Jc.length h.2.2]
 | [],_::_,h=>h.elim
 | _::_,[],h=>h.elim
section
variable {H:Type}{enc:TypeId×Value→H}{P:Program}{ti:Types}{T:List TypeId}{w:World}
theorem aU (hti:Ao P ti) (hT:N7 ti T=true) {Z:Ad}(hZ:∀b o,¬Z b o) {base base':Nat}{spare:Nat→Bool}{held:Bool}{r:Reach}{t:TypeId}{v:Value}{d:DataW H}{ps:List MemPlace}(ht:t∈T)
  (hok:Value.okWide P w r base' t v) (h:DataW.Trod enc P w base spare held t v d ps):∃x:D,Shape ti t x.cells∧(∀y,ti t=some y→x.isAgg=AU y.desc)∧AX w Z x v:=by
 obtain⟨fuel,h⟩:=h
 obtain⟨ds,hs,h1,h2,h3⟩:=conv hti hT (Z:=Z) hZ fuel t _ _ _ ht h
 have hp:=List.all_eq_true.1 hT t ht
 split at hp
 ·rename_i y hy
  have hu:=(hti t y hy).1
  have single:AU y.desc=false→v.cells.toList=[v]→∃x:D,Shape ti t x.cells∧(∀y,ti t=some y→x.isAgg=AU y.desc)∧AX w Z x v:=by
   intro hr hv
   rw[hv]at h1 h3
   obtain⟨c,rfl⟩:=List.length_eq_one_iff.1 h1
   have hc:=h2 c (by simp)
   have e:c.cells=[c]:=by cases c<;>first | rfl | simp[D.isAgg]at hc
   refine⟨c,by rw[e];exact hs,fun y' hy'=>?_,h3 0 c v rfl rfl⟩
   rw[hy]at hy'
   obtain rfl:y=y':=by simpa using hy'
   rw[hc,hr]
  split at hp
  ·rename_i hd
   rw[hd]at hu
   obtain⟨b,rfl⟩:=okWide_bool hu hok
   exact single (by rw[hd];rfl) rfl
  ·rename_i k hd
   rw[hd]at hu
   obtain⟨b,rfl⟩:=okWide_int hu hok
   exact single (by rw[hd];rfl) rfl
  ·rename_i hd
   rw[hd]at hu
   obtain⟨b,rfl⟩:=okWide_string hu hok
   exact single (by rw[hd];rfl) rfl
  ·rename_i e hd
   rw[hd]at hu
   obtain⟨a,l,c,rfl⟩:=okWide_slice hu hok
   exact single (by rw[hd];rfl) rfl
  ·rename_i fs hd
   rw[hd]at hu
   obtain⟨cs,rfl,_⟩:=okWide_struct hu hok
   refine⟨.agg ds,hs,fun y' hy'=>?_,.agg ds cs (by simpa [Value.cells] using h1.symm) h2 (fun j c u hc hu'=>h3 j c u hc (by simpa [Value.cells] using hu'))⟩
   rw[hy]at hy'
   obtain rfl:y=y':=by simpa using hy'
   rw[hd];rfl
  ·simp at hp
 ·simp at hp
theorem QW (hti:Ao P ti) (hT:N7 ti T=true) {Z:Ad}(hZ:∀b o,¬Z b o) {base base':Nat}{spare:Nat→Bool}{held:Bool}{r:Reach}:
  ∀(ts:List TypeId) (vs:List Value) (ds:List (DataW H)) (ps:List MemPlace),(∀t∈ts,t∈T)→DataW.TrodAll enc P w base spare held ts vs ds ps→
   (∀(j:Nat) t v,ts[j]?=some t→vs[j]?=some v→Value.okWide P w r base' t v)→
   ∃xs,Jc ti ts xs∧∀(j:Nat) x v,xs[j]?=some x→vs[j]?=some v→AX w Z x v
 | [],vs,ds,ps,_,h,_=>⟨[],trivial,by simp⟩
 | t::ts,vs,ds,ps,ht,h,hok=>by
  obtain⟨v,vs1,d,ds1,a,b,rfl,rfl,rfl,h1,h2⟩:=trodAll_cons h
  obtain⟨x,k1,k2,k3⟩:=aU hti hT hZ (ht t (by simp)) (hok 0 t v rfl rfl) h1
  obtain⟨xs,k4,k5⟩:=QW hti hT hZ ts vs1 ds1 b (fun t ht'=>ht t (by simp[ht'])) h2 (fun j t v h1 h2=>hok (j+1) t v (by simpa using h1) (by simpa using h2))
  refine⟨x::xs,⟨k1,k2,k4⟩,fun j x' v' hx hv=>?_⟩
  match j with
  | 0=>simp at hx hv;subst hx;subst hv;exact k3
  | j+1=>simp at hx hv;exact k5 j x' v' hx hv
theorem QX (hl:laidOutB P=true) {W W':World}(hb:Below W.heap.size W W'):∀(ts:List TypeId) (vs:List Value) (ds:List (DataW H)) (ps:List MemPlace),
  (∀t∈ts,P.readableRec t=true∧t<P.types.size)→DataW.TrodAll enc P W 0 (fun _=>true) true ts vs ds ps→(∀x∈ps,x.block<W.heap.size)→
  DataW.TrodAll enc P W' 0 (fun b=>decide (b<W.heap.size)) true ts vs ds ps
 | [],vs,ds,ps,_,h,_=>by
  obtain⟨rfl,rfl,rfl⟩:=trodAll_nil h
  exact rfl
 | t::ts,vs,ds,ps,ht,h,hlt=>by
  obtain⟨v,vs1,d,ds1,a,b,rfl,rfl,rfl,h1,h2⟩:=trodAll_cons h
  have ht1:=ht t (by simp)
  exact⟨a,b,Below.trod hl ht1.1 ht1.2 h1 hb (fun x hx=>hlt x (by simp[hx])),QX hl hb ts vs1 ds1 b (fun t ht'=>ht t (by simp[ht'])) h2 (fun x hx=>hlt x (by simp[hx])),rfl⟩
theorem Xu {I:Inv}(hti:Ao P ti) (hT:N7 ti T=true) {s:ChangeSpec}{fn:Func}{f:FuncId}{ts:List TypeId}{bt:TypeId}
  (hp:fn.params.toList=ts) (hv:s.vars=[]) (hr:fn.resultTypes=#[bt]) (hb:P.underlying bt=some .bool) (htT:∀t∈ts,t∈T)
  (hs:∀ds:List (DataW H),ds.length=ts.length→(s.fn H ds).results=[.lit (.bool true)]∧(s.fn H ds).args=ds∧(s.fn H ds).vars=[])
  (hl:laidOutB P=true) (hrec:∀t∈ts,P.readableRec t=true∧t<P.types.size)
  (hc:∀xs:List D,Jc ti ts xs→Bf P I f (xs.map V1.d) [] (.v (.d (.bool true))) [] [])
  {W:World} {base:Nat} {args:Array Value} {ds gs:List (DataW H)} {before:List MemPlace}
  (hI:I.at W fun _ _=>False) (hval:∀(j:Nat) t v,fn.params[j]?=some t→args[j]?=some v→Value.okWide P W .any base t v)
  (hW:DataW.Whole enc P fn.params.toList s.vars false W args.toList ds gs before):
  Calls P f args W fun e W'=>∃v,e= .returned v∧s.post enc P fn false true false false W args v W':=by
 have hW':=hW
 obtain⟨p,q,hA,hV,rfl,_,_⟩:=hW
 rw[hv]at hV
 obtain⟨rfl,rfl⟩:gs=[]∧q=[]:=by
  cases gs with
  | nil=>exact⟨rfl,hV⟩
  | cons _ _=>exact hV.elim
 rw[hp]at hA
 obtain⟨hlen,hdl⟩:=trodAll_length hA
 obtain⟨xs,hsh,hrel⟩:=QW hti hT (Z:=fun _ _=>False) (fun _ _ h=>h) (r:=.any) (base':=base) ts args.toList ds p htT hA (fun j t v h1 h2=>hval j t v (by
  rw[←Array.getElem?_toList,hp];exact h1) (by simpa using h2))
 have hxl:=hsh.length
 have hcall:=hc xs hsh
 have hheap:∀i o,Ae [] i=some o→False:=by
  intro i o h
  cases i<;>simp[Ae]at h
 have hzone:∀(g:AL) b o,¬zone g (Ae []) b o:=by
  rintro g b o ⟨i,ob,h,_⟩
  exact hheap i ob h
 refine (hcall.calls (w:=W) (X:=fun _ _=>False) (g:=fun _=>undef) (vals:=args) (fun _ _ h=>h.elim) (hI.mono fun b o hz=>hz.elim (hzone _ b o) id) ⟨fun i o h=>(hheap i o h).elim,fun i _ _ _ _ h=>(hheap i _ h).elim,fun i _ _ _ h=>(hheap i _ h).elim⟩ (fun _=>rfl)
  (by simp at hlen;simp;omega) (fun j x v hx hvv=>?_)).mono ?_
 ·simp only[List.getElem?_map,Option.map_eq_some_iff]at hx
  obtain⟨d,hd,rfl⟩:=hx
  exact (hrel j d v hd (by simpa using hvv)).mono (fun b o u hu _=>⟨hu,fun hz=>hz.elim (hzone _ b o) id⟩)
 ·rintro e W' ⟨v,g',rfl,hpost⟩
  obtain rfl:v= .bool true:=by cases (show AX _ _ (.bool true) v from hpost.res);rfl
  have hbel:Below W.heap.size W W':=⟨hpost.frame.os,hpost.frame.tape,hpost.frame.output,hpost.frame.size,fun k hk=>hpost.frame.block k hk (fun o=>hzone _ k o)⟩
  obtain⟨s1,s2,s3⟩:=hs (ds++[]) (by simp[hdl])
  refine⟨_,rfl,ds,[],p++[],[],p,[],hW',?_,?_,?_,hbel.frame _,fun h=>by cases h⟩
  ·rw[s1,hr]
   exact trodAll_mk1 (shut_bool hb true)
  ·rw[s2,hp,List.append_nil]
   exact QX hl hbel ts args.toList ds p hrec hA (fun x hx=>hW'.lt x (by simp[hx]))
  ·rw[s3,hv];rfl
end
end Go.AM
