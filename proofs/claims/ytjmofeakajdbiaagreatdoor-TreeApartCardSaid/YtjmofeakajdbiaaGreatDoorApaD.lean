/- Part of a proof. No condition. (Part 4.) -/
import Derived.Test.YtjmofeakajdbiaaGreatDoorApaC
set_option linter.unusedVariables false
set_option linter.unusedSimpArgs false
namespace Go.AM
open Go Go.RowKit
section
variable {γ:Type}{r:γ}
def PF:List Jo→List AV→Option (List Lf)
 | [],[]=>some []
 | s::ss,c::cs=>(match bL s c with
  | some l=>(match PF ss cs with
   | some m=>some (l++m)
   | none=>none)
  | none=>none)
 | _,_=>none
def HK:List Jo→List Lf→Option (List AV×List Lf)
 | [],r=>some ([],r)
 | s::ss,r=>(match Uz s r with
  | some (c,r)=>(match HK ss r with
   | some (cs,r)=>some (c::cs,r)
   | none=>none)
  | none=>none)
theorem IX:∀{s:List Jo}{c:List AV}{l:List Lf},PF s c=some l→∀rest,HK s (l++rest)=some (c,rest)
 | [],[],l,h,rest=>by cases h;rfl
 | s::ss,c::cs,l,h,rest=>by
  unfold PF at h
  split at h
  ·rename_i a ha
   split at h
   ·rename_i b hb
    cases h
    unfold HK
    rw[List.append_assoc,Se ha]
    simp only[]
    rw[IX hb]
   ·cases h
  ·cases h
 | [],_::_,_,h,_=>by cases h
 | _::_,[],_,h,_=>by cases h
def Ik:List (List Sk)→List AF→Option (List Lf)
 | [],[]=>some []
 | s::ss,.cells cs::os=>(match PD s cs with
  | some l=>(match Ik ss os with
   | some m=>some (l++m)
   | none=>none)
  | none=>none)
 | _,_=>none
def Ei:List (List Sk)→List Lf→Option (List AF×List Lf)
 | [],r=>some ([],r)
 | s::ss,r=>(match PE s r with
  | some (c,r)=>(match Ei ss r with
   | some (os,r)=>some (.cells c::os,r)
   | none=>none)
  | none=>none)
theorem Db:∀{s:List (List Sk)}{c:List AF}{l:List Lf},Ik s c=some l→∀rest,Ei s (l++rest)=some (c,rest)
 | [],[],l,h,rest=>by cases h;rfl
 | s::ss,.cells cs::os,l,h,rest=>by
  unfold Ik at h
  split at h
  ·rename_i a ha
   split at h
   ·rename_i b hb
    cases h
    unfold Ei
    rw[List.append_assoc,Hv ha]
    simp only[]
    rw[Db hb]
   ·cases h
  ·cases h
 | [],_::_,_,h,_=>by cases h
 | s::ss,o::os,l,h,rest=>by
  cases o with
  | cells cs=>
   unfold Ik at h
   split at h
   ·rename_i a ha
    split at h
    ·rename_i b hb
     cases h
     unfold Ei
     rw[List.append_assoc,Hv ha]
     simp only[]
     rw[Db hb]
    ·cases h
   ·cases h
  | _=>cases h
 | _::_,[],_,h,_=>by cases h
def OE {α β:Type}:List α→List β→List (α×β)
 | a::l,b::m=>(a,b)::OE l m
 | _,_=>[]
inductive Ty where
 | I
 | B
 | S
 | L
def xP:Sk→List Ty→List Ty
 | .int _,l=>.I::l
 | .bool,l=>.B::l
 | .str,l=>.S::l
 | .list _ _,l=>.L::l
 | _,l=>l
def bM:List Sk→List Ty→List Ty
 | [],l=>l
 | s::ss,l=>xP s (bM ss l)
def Sf:List Jo→List Ty→List Ty
 | [],l=>l
 | s::ss,l=>(match s with
  | .one c=>xP c (Sf ss l)
  | .agg cs=>bM cs (Sf ss l)
  | .mix cs=>bM cs (Sf ss l))
def XA:List (List Sk)→List Ty
 | []=>[]
 | s::ss=>bM s (XA ss)
def Vo (ρ:Type):List Ty→Type
 | []=>Option ρ
 | .I::l=>Int→Vo ρ l
 | .B::l=>Bool→Vo ρ l
 | .S::l=>ByteArray→Vo ρ l
 | .L::l=>List D→Vo ρ l
def Vp:(l:List Ty)→Vo γ l→List Lf→Option γ
 | [],x,[]=>x
 | .I::l,f,.I z::r=>Vp l (f z) r
 | .B::l,f,.B z::r=>Vp l (f z) r
 | .S::l,f,.S z::r=>Vp l (f z) r
 | .L::l,f,.L z::r=>Vp l (f z) r
 | _,_,_=>none
def NK:(l:List Ty)→(List Lf→Option γ)→Vo γ l
 | [],f=>f []
 | .I::l,f=>fun z=>NK l fun r=>f (.I z::r)
 | .B::l,f=>fun z=>NK l fun r=>f (.B z::r)
 | .S::l,f=>fun z=>NK l fun r=>f (.S z::r)
 | .L::l,f=>fun z=>NK l fun r=>f (.L z::r)
theorem Fb:∀{l:List Ty}{f:List Lf→Option γ}{v:List Lf},Vp l (NK l f) v=some r→f v=some r
 | [],f,[],h=>h
 | .I::l,f,.I z::v,h=>Fb (l:=l) (f:=fun r=>f (.I z::r)) (v:=v) h
 | .B::l,f,.B z::v,h=>Fb (l:=l) (f:=fun r=>f (.B z::r)) (v:=v) h
 | .S::l,f,.S z::v,h=>Fb (l:=l) (f:=fun r=>f (.S z::r)) (v:=v) h
 | .L::l,f,.L z::v,h=>Fb (l:=l) (f:=fun r=>f (.L z::r)) (v:=v) h
 | [],_,_::_,h=>by cases h
 | .I::_,_,[],h=>by cases h
 | .B::_,_,[],h=>by cases h
 | .S::_,_,[],h=>by cases h
 | .L::_,_,[],h=>by cases h
 | .I::_,_,.B _::_,h=>by cases h
 | .I::_,_,.S _::_,h=>by cases h
 | .I::_,_,.L _::_,h=>by cases h
 | .B::_,_,.I _::_,h=>by cases h
 | .B::_,_,.S _::_,h=>by cases h
 | .B::_,_,.L _::_,h=>by cases h
 | .S::_,_,.I _::_,h=>by cases h
 | .S::_,_,.B _::_,h=>by cases h
 | .S::_,_,.L _::_,h=>by cases h
 | .L::_,_,.I _::_,h=>by cases h
 | .L::_,_,.B _::_,h=>by cases h
 | .L::_,_,.S _::_,h=>by cases h
class Res (ρ:Type) where
  pack:ρ→List Lf
  unp:List Lf→Option (ρ×List Lf)
  law:∀{l p q},unp l=some (p,q)→l=pack p++q
instance:Res Unit:=⟨fun _=>[],fun l=>some ((),l),fun h=>by cases h;rfl⟩
instance:Res Int:=⟨fun z=>[.I z],fun l=>match l with | .I z::q=>some (z,q) | _=>none,fun h=>by split at h<;>cases h;rfl⟩
instance:Res Bool:=⟨fun z=>[.B z],fun l=>match l with | .B z::q=>some (z,q) | _=>none,fun h=>by split at h<;>cases h;rfl⟩
instance:Res ByteArray:=⟨fun z=>[.S z],fun l=>match l with | .S z::q=>some (z,q) | _=>none,fun h=>by split at h<;>cases h;rfl⟩
instance:Res (List D):=⟨fun z=>[.L z],fun l=>match l with | .L z::q=>some (z,q) | _=>none,fun h=>by split at h<;>cases h;rfl⟩
instance {α β:Type} [Res α] [Res β]:Res (α×β):=⟨fun p=>Res.pack p.1++Res.pack p.2,fun l=>match (Res.unp l:Option (α×List Lf))with
  | some (a,l)=>(match (Res.unp l:Option (β×List Lf))with
    | some (b,l)=>some ((a,b),l)
    | none=>none)
  | none=>none,fun h=>by
    split at h
    · rename_i ha
      split at h
      · rename_i hb
        cases h
        rw[Res.law ha,Res.law hb,List.append_assoc]
      · cases h
    · cases h⟩
class Rez (ρ:Type) where
 elim:{γ:Type}→ρ→(Nat→List Lf→Option γ)→Option γ
 alt:ρ→Nat
 pack:ρ→List Lf
 law:∀{γ:Type} {p:ρ} {k:Nat→List Lf→Option γ},elim p k=k (alt p) (pack p)
instance rezOf {ρ:Type} [Res ρ]:Rez ρ:=⟨fun p k=>k 0 (Res.pack p),fun _=>0,Res.pack,rfl⟩
instance {α β:Type} [Res α] [Rez β]:Rez (α ⊕ β):=⟨fun p k=>match p with
  | .inl a=>k 0 (Res.pack a)
  | .inr b=>Rez.elim b fun i l=>k (i+1) l,fun p=>match p with
  | .inl _=>0
  | .inr b=>Rez.alt b+1,fun p=>match p with
  | .inl a=>Res.pack a
  | .inr b=>Rez.pack b,fun {γ p k}=>by
    cases p with
    | inl a=>rfl
    | inr b=>exact Rez.law⟩
def bN (ρ:Type) [Res ρ] (l:List Lf):Option ρ:=match (Res.unp l:Option (ρ×List Lf))with
 | some (p,[])=>some p
 | _=>none
theorem XB {ρ:Type} [Res ρ] {l:List Lf}{p:ρ}(h:bN ρ l=some p):l=Res.pack p:=by
 unfold bN at h
 split at h
 ·rename_i hu
  cases h
  rw[Res.law hu,List.append_nil]
 ·cases h
structure Site (γ:Type) where
 p:Nat
 ks:List Nat
 is:List Id
 nx:Nat
 sk:List Jo
 hk:List (List Sk)
 app:Nat→Vo γ (Sf sk (XA hk))
def Site.st (s:Site γ) (lv:List Lf):Option St:=
 match HK s.sk lv with
 | some (vs,lv)=>(match Ei s.hk lv with
  | some (os,_)=>some ⟨OE s.ks vs,OE s.is os,s.nx⟩
  | none=>none)
 | none=>none
def U0 (ks:List Nat) (is:List Id) (n:Nat) (σ:St):Option (List AV×List AF):=
 match D4 (Aa σ.heap) is with
 | none=>none
 | some os=>EF (B3 (aI n) (ks.map (Ad σ.slots)))<| EF (B3 (fun x:Id×AF=>match Lp n x.1 with | true=>Xy n x.2 | false=>false) (OE is os)) (some (ks.map (Ad σ.slots),os))
theorem NL {l:List (Id×AF)}:∀{is:List Id}{os:List AF},D4 (Aa l) is=some os→LQ l is=some (OE is os)
 | [],os,h=>by cases h;rfl
 | i::is,os,h=>by
  unfold D4 at h
  split at h
  ·rename_i o ho
   split at h
   ·rename_i r' hr
    cases h
    unfold LQ
    rw[ho,NL hr]
    rfl
   ·cases h
  ·cases h
theorem PG (l:List (Nat×AV)):∀ks:List Nat,Ho l ks=OE ks (ks.map (Ad l))
 | []=>rfl
 | k::ks=>by show (k,Ad l k)::Ho l ks=(k,Ad l k)::OE ks (ks.map (Ad l));rw[PG l ks]
theorem Vq {n:Nat}(l:List (Nat×AV)):∀ks:List Nat,B3 (aI n) (ks.map (Ad l))=true→B3 (fun x:Nat×AV=>aI n x.2) (OE ks (ks.map (Ad l)))=true
 | [],_=>rfl
 | k::ks,h=>by
  unfold List.map B3 at h
  split at h
  ·rename_i hk
   show (match aI n (Ad l k)with | true=>_ | false=>_)=true
   rw[hk]
   exact Vq l ks h
  ·cases h
theorem XC {ks:List Nat}{is:List Id}{n:Nat}{σ:St}{vs:List AV}{os:List AF}(h:U0 ks is n σ=some (vs,os)):∃σ',CH σ σ'∧σ'=⟨OE ks vs,OE is os,n⟩:=by
 unfold U0 at h
 split at h
 ·cases h
 ·rename_i os' ho
  obtain⟨h1,h⟩:=BG h
  obtain⟨h2,h⟩:=BG h
  cases h
  refine GC (K:=fun σ'=>σ'=_) (ks:=ks) (is:=is) (n:=n) ?_
  unfold Lq
  rw[NL ho,PG]
  exact AO.2 ⟨Vq _ _ h1,AO.2 ⟨h2,rfl⟩⟩
def Site.run (s:Site γ) (n:Nat) (σ:St):Option (Option γ):=
 match U0 s.ks s.is s.nx σ with
 | some (vs,os)=>(match PF s.sk vs with
  | some a=>(match Ik s.hk os with
   | some b=>some (Vp _ (s.app n) (a++b))
   | none=>none)
  | none=>none)
 | none=>none
theorem Site.lK {s:Site γ}{n:Nat}{σ:St}(h:s.run n σ=some (some r)):∃lv σ',Vp _ (s.app n) lv=some r∧s.st lv=some σ'∧CH σ σ':=by
 unfold Site.run at h
 split at h
 ·rename_i vs os hk
  split at h
  ·rename_i a ha
   split at h
   ·rename_i b hb
    obtain⟨σ',hw,rfl⟩:=XC hk
    refine⟨_,_,Option.some.inj h,?_,hw⟩
    unfold Site.st
    rw[IX ha]
    simp only[]
    rw[←List.append_nil b,Db hb]
   ·cases h
  ·cases h
 ·cases h
def PH:List (Site γ)→Nat→Nat→St→Option (Option γ)
 | [],_,_,_=>none
 | s::l,n,p,σ=>(match Nat.beq s.p p with
  | true=>(match s.run n σ with
   | some x=>some x
   | none=>PH l n p σ)
  | false=>PH l n p σ)
theorem Sg:∀{l:List (Site γ)}{n p:Nat}{σ:St},PH l n p σ=some (some r)→∃s∈l,s.p=p∧s.run n σ=some (some r)
 | s::l,n,p,σ,h=>by
  have rest:PH l n p σ=some (some r)→∃s'∈s::l,s'.p=p∧s'.run n σ=some (some r):=fun h=>by
   obtain⟨s',h1,h2⟩:=Sg h
   exact⟨s',List.mem_cons_of_mem _ h1,h2⟩
  unfold PH at h
  split at h
  ·rename_i hb
   split at h
   ·rename_i x hx
    cases h
    exact⟨s,List.mem_cons_self ..,Nat.eq_of_beq_eq_true hb,hx⟩
   ·exact rest h
  ·exact rest h
 | [],_,_,_,h=>by cases h
inductive zP where
 | one (s:Jo)
 | tup (l:List Jo)
structure Jp where
 res:zP
 post:List (List Sk)
 new:List (List Sk)
def bO (s:Jp) (x:fE):Option (List Lf):=
 match s.res,x.res with
 | .one a,.v y=>(match bL a (.v y)with
  | some l=>(match Ik s.post x.post with
   | some m=>(match Ik s.new x.new with
    | some n=>some (l++(m++n))
    | none=>none)
   | none=>none)
  | none=>none)
 | .tup xs1,.t ys=>(match PF xs1 (ys.map AV.v)with
  | some l=>(match Ik s.post x.post with
   | some m=>(match Ik s.new x.new with
    | some n=>some (l++(m++n))
    | none=>none)
   | none=>none)
  | none=>none)
 | _,_=>none
def Y7:List AV→Option (List V1)
 | []=>some []
 | .v x::l=>(match Y7 l with
  | some m=>some (x::m)
  | none=>none)
 | _::_=>none
theorem Qy:∀l:List V1,Y7 (l.map AV.v)=some l
 | []=>rfl
 | x::l=>by show (match Y7 (l.map AV.v)with | some m=>some (x::m) | none=>none)=_;rw[Qy l]
def Qz (s:Jp) (lv:List Lf):Option fE:=
 match s.res with
 | .one a=>(match Uz a lv with
  | some (y,lv)=>(match Ei s.post lv with
   | some (os,lv)=>(match Ei s.new lv with
    | some (ns,_)=>some ⟨y,os,ns⟩
    | none=>none)
   | none=>none)
  | none=>none)
 | .tup xs1=>(match HK xs1 lv with
  | some (ys,lv)=>(match Y7 ys with
   | some xs=>(match Ei s.post lv with
    | some (os,lv)=>(match Ei s.new lv with
     | some (ns,_)=>some ⟨.t xs,os,ns⟩
     | none=>none)
    | none=>none)
   | none=>none)
  | none=>none)
theorem Y8:∀{s:Jp}{x:fE}{l:List Lf},bO s x=some l→Qz s l=some x
 | ⟨.one a,ps,qs⟩,⟨.v y,post,new⟩,l,h=>by
  unfold bO at h
  simp only[]at h
  split at h
  ·rename_i l1 h1
   split at h
   ·rename_i l2 h2
    split at h
    ·rename_i l3 h3
     cases h
     unfold Qz
     simp only[]
     rw[Se h1]
     simp only[]
     rw[Db h2]
     simp only[]
     rw[←List.append_nil l3,Db h3]
    ·cases h
   ·cases h
  ·cases h
 | ⟨.tup xs1,ps,qs⟩,⟨.t ys,post,new⟩,l,h=>by
  unfold bO at h
  simp only[]at h
  split at h
  ·rename_i l1 h1
   split at h
   ·rename_i l2 h2
    split at h
    ·rename_i l3 h3
     cases h
     unfold Qz
     simp only[]
     rw[IX h1]
     simp only[]
     rw[Qy]
     simp only[]
     rw[Db h2]
     simp only[]
     rw[←List.append_nil l3,Db h3]
    ·cases h
   ·cases h
  ·cases h
 | ⟨.one _,_,_⟩,⟨.t _,_,_⟩,_,h=>by cases h
 | ⟨.tup _,_,_⟩,⟨.v _,_,_⟩,_,h=>by cases h
 | ⟨.one _,_,_⟩,⟨.u,_,_⟩,_,h=>by cases h
 | ⟨.tup _,_,_⟩,⟨.u,_,_⟩,_,h=>by cases h
def bP:List Jp→Nat→Option Jp
 | [],_=>none
 | s::_,0=>some s
 | _::l,n+1=>bP l n
structure BQ where
 f:FuncId
 args:List Jo
 pre:List (List Sk)
 ret:List Jp
 ρ:Type
 inst:Rez ρ
 F:Nat→Vo ρ (Sf args (XA pre))
def BQ.ok (P:Program) (I:Inv) (c:BQ) (n:Nat):Prop:=∀lv p,Vp _ (c.F n) lv=some p→∀xs1 pre rk ret l1 l2,HK c.args lv=some (xs1,l1)→Ei c.pre l1=some (pre,l2)→bP c.ret (c.inst.alt p)=some rk→Qz rk (c.inst.pack p)=some ret→∀xs,Y7 xs1=some xs→Ah P I c.f xs pre ret.res ret.post ret.new
def Kv:List BQ→Nat→Cl γ
 | [],_,_,_,_,_=>none
 | c::l,n,f,args,pre,k=>(match Nat.beq c.f f with
  | true=>(match PF c.args (args.map AV.v)with
   | some a=>(match Ik c.pre pre with
    | some b=>(match Vp _ (c.F n) (a++b)with
     | some p=>c.inst.elim p fun i l=>(match bP c.ret i with
      | some rk=>(match Qz rk l with
       | some ret=>k ret
       | none=>none)
      | none=>none)
     | none=>none)
    | none=>Kv l n f args pre k)
   | none=>Kv l n f args pre k)
  | false=>Kv l n f args pre k)
theorem PI {P:Program}{I:Inv}{n:Nat}:∀{l:List BQ},(∀c∈l,c.ok P I n)→(Kv l n:Cl γ).ok P I
 | [],_=>fun _ _ _ _ _ h=>by cases h
 | c::l,hc=>fun f args pre k r h=>by
  have rest:=PI (P:=P) (I:=I) (n:=n) (l:=l) fun c' hc'=>hc c' (List.mem_cons_of_mem _ hc')
  unfold Kv at h
  split at h
  ·rename_i hf
   split at h
   ·rename_i a ha
    split at h
    ·rename_i b hb
     split at h
     ·rename_i p hp
      rw[c.inst.law]at h
      split at h
      ·rename_i rk hrk
       split at h
       ·rename_i ret hr
        have e1:=IX ha b
        have e2:=Db hb []
        rw[List.append_nil]at e2
        have:=hc c (List.mem_cons_self ..) _ _ hp _ _ _ _ _ _ e1 e2 hrk hr args (Qy args)
        rw[Nat.eq_of_beq_eq_true hf]at this
        exact⟨_,_,_,this,h⟩
       ·cases h
      ·cases h
     ·cases h
    ·exact rest f args pre k r h
   ·exact rest f args pre k r h
  ·exact rest f args pre k r h
def XD:(l:List Ty)→Vo γ l→(List Lf→γ→Prop)→Prop
 | [],x,P=>∀p,x=some p→P [] p
 | .I::l,f,P=>∀z,XD l (f z) fun v p=>P (.I z::v) p
 | .B::l,f,P=>∀z,XD l (f z) fun v p=>P (.B z::v) p
 | .S::l,f,P=>∀z,XD l (f z) fun v p=>P (.S z::v) p
 | .L::l,f,P=>∀z,XD l (f z) fun v p=>P (.L z::v) p
theorem Jq:∀{l:List Ty}{f:Vo γ l}{P:List Lf→γ→Prop}{v:List Lf}{p:γ},XD l f P→Vp l f v=some p→P v p
 | [],_,_,[],_,h,e=>h _ e
 | .I::l,f,P,.I z::v,_,h,e=>Jq (l:=l) (f:=f z) (P:=fun v p=>P (.I z::v) p) (v:=v) (h z) e
 | .B::l,f,P,.B z::v,_,h,e=>Jq (l:=l) (f:=f z) (P:=fun v p=>P (.B z::v) p) (v:=v) (h z) e
 | .S::l,f,P,.S z::v,_,h,e=>Jq (l:=l) (f:=f z) (P:=fun v p=>P (.S z::v) p) (v:=v) (h z) e
 | .L::l,f,P,.L z::v,_,h,e=>Jq (l:=l) (f:=f z) (P:=fun v p=>P (.L z::v) p) (v:=v) (h z) e
 | [],_,_,_::_,_,_,h=>by cases h
 | .I::_,_,_,[],_,_,h=>by cases h
 | .B::_,_,_,[],_,_,h=>by cases h
 | .S::_,_,_,[],_,_,h=>by cases h
 | .L::_,_,_,[],_,_,h=>by cases h
 | .I::_,_,_,.B _::_,_,_,h=>by cases h
 | .I::_,_,_,.S _::_,_,_,h=>by cases h
 | .I::_,_,_,.L _::_,_,_,h=>by cases h
 | .B::_,_,_,.I _::_,_,_,h=>by cases h
 | .B::_,_,_,.S _::_,_,_,h=>by cases h
 | .B::_,_,_,.L _::_,_,_,h=>by cases h
 | .S::_,_,_,.I _::_,_,_,h=>by cases h
 | .S::_,_,_,.B _::_,_,_,h=>by cases h
 | .S::_,_,_,.L _::_,_,_,h=>by cases h
 | .L::_,_,_,.I _::_,_,_,h=>by cases h
 | .L::_,_,_,.B _::_,_,_,h=>by cases h
 | .L::_,_,_,.S _::_,_,_,h=>by cases h
theorem Cm {P:Program}{I:Inv}{c:BQ}{n:Nat}(h:XD _ (c.F n) fun lv p=>∀xs1 pre rk ret l1 l2,HK c.args lv=some (xs1,l1)→Ei c.pre l1=some (pre,l2)→bP c.ret (c.inst.alt p)=some rk→Qz rk (c.inst.pack p)=some ret→∀xs,Y7 xs1=some xs→Ah P I c.f xs pre ret.res ret.post ret.new):c.ok P I n:=fun _ _ e=>Jq h e
def Si (ti:Types) (rs:List ResultVar) (np:Nat) (fin:fE→Option γ):Kt γ
 | .exit _,_=>none
 | .normal,σ=>Vm ti rs np σ fin
 | .ret,σ=>Vm ti rs np σ fin
def Sj (ds:Ds γ) (cs:List BQ) (ss:List (Site γ)) (n:Nat):Env γ:=⟨ds,Kv cs n,PH ss n⟩
def Site.ok (ds:Ds γ) (cs:List BQ) (ss:List (Site γ)) (ti:Types) (nt:Nat) (body:Code) (K:Kt γ) (s:Site γ):Prop:=
 (∀lv r,Vp _ (s.app 0) lv≠some r)∧B0 (SY 60 s.p)=s.p∧∀n lv σ r,Vp _ (s.app (n+1)) lv=some r→s.st lv=some σ→JK (Sj ds cs ss n) ti nt body K (SY 60 s.p) σ=some r
def Jr (s:Jp) (out:List Lf→Option γ) (x:fE):Option γ:=
 match bO s x with
 | some l=>out l
 | none=>none
theorem Du.rM {P:Program}{I:Inv}{f:FuncId}{args:List V1}{pre:List AF}{Q Q':AV→List AF→List AF→Prop}(hq:∀a b c,Q a b c→Q' a b c) (h:Du P I f args pre Q):Du P I f args pre Q':=
 ⟨h.1,fun w X g vals k1 k2 k3 k4 k5 k6=>Calls.mono (h.2 w X g vals k1 k2 k3 k4 k5 k6) fun e w' ⟨v,g',res,post,new,q,he,hp⟩=>⟨v,g',res,post,new,hq _ _ _ q,he,hp⟩⟩
theorem iQ {P:Program}{I:Inv}{ti:Types}(hti:BO P ti) (h1:Bt ti) (hm:P.follows .mixedOrders=true) {f:FuncId}{fn:Func}{c:Code}(hf:P.funcs[f]?=some fn) (hb:fn.body=some c)
  (hname:(fn.name== "runtime.NumGoroutine")=false) {args:List V1} {pre post new:List AF} {res:AV} {nt:Nat} (hnt:fn.ntmps=nt) (hargs:Nat.ble args.length nt=true) {rs:List ResultVar} (hrs:fn.results.toList=rs)
  {ds:Ds γ} (hd:ds.ok) {cs:List BQ} {ss:List (Site γ)} {N np:Nat} {rk:Jp} {out:List Lf→Option γ} (hc:∀m,m≤N→∀c∈cs,c.ok P I m) (hs:∀s∈ss,s.ok ds cs ss ti nt c (Si ti rs np (Jr rk out)))
  (hx:JK (Sj ds cs ss N) ti nt c (Si ti rs np (Jr rk out)) [] ⟨slotsOf args 0,B9 pre 0,0⟩=some r) (ho:∀l,out l=some r→Qz rk l=some ⟨res,post,new⟩):Ah P I f args pre res post new:=by
 have main:Du P I f args pre fun a b c=>Jr rk out ⟨a,b,c⟩=some r:=by
  refine Du.of hti h1 hm hf hb hname hnt hargs hrs fun M hP hI=>?_
  have:=(Fa (M:=M) (N:=N) (E:=Sj ds cs ss) (Kf:=Si ti rs np (Jr rk out)) (body:=c) (ti:=ti) (nt:=nt) (r:=r) (fun _ _=>hd) (fun m hm=>by rw[hP,hI];exact PI (hc m hm)) (fun m hm p σ e=>?_) c [] N (fun _=>Si ti rs np (Jr rk out))
   (fun e σ=>match e with
   | .exit _=>False
   | .normal=>∃res post new,Jr rk out ⟨res,post,new⟩=some r∧Lr ti rs σ res post new
   | .ret=>∃res post new,Jr rk out ⟨res,post,new⟩=some r∧Lr ti rs σ res post new) (Nat.le_refl _) (fun _ _=>rfl) (fun m e σ _ h=>?_)).2 _ hx
  ·exact this
  ·unfold NH Sj at e
   simp only[]at e
   split at e
   ·rename_i x hx
    subst e
    obtain⟨s,hmem,rfl,e⟩:=Sg hx
    obtain⟨lv,σ',g1,g2,g3⟩:=Site.lK e
    obtain⟨k1,k2,k3⟩:=hs s hmem
    cases m with
    | zero=>exact absurd g1 (k1 _ _)
    | succ m=>exact⟨m,σ',_,Nat.lt_succ_self m,g3,k2,k3 m lv σ' r g1 g2⟩
   ·cases e
  ·cases e with
   | exit id=>cases h
   | normal=>exact Sb h
   | ret=>exact Sb h
 refine main.rM fun a b c h=>?_
 unfold Jr at h
 split at h
 ·rename_i l hl
  have h1:=Y8 hl
  rw[ho l h]at h1
  cases h1
  exact⟨rfl,rfl,rfl⟩
 ·cases h
def Y9 (f:Func):Code:=match f.body with
 | some c=>c
 | none=>.skip
structure BX where
 f:FuncId
 fn:Func
 args:List Jo
 pre:List (List Sk)
 ret:Jp
 ρ:Type
 inst:Res ρ
 F:Nat→Vo ρ (Sf args (XA pre))
 sites:List (Site ρ)
def BX.c (x:BX):BQ:=⟨x.f,x.args,x.pre,[x.ret],x.ρ,@rezOf x.ρ x.inst,x.F⟩
def BX.go (ds:(γ:Type)→Ds γ) (ti:Types) (x:BX) (cs:List BQ) (n p:Nat) (σ:Option St):Option x.ρ:=
 match σ with
 | some σ=>JK (Sj (ds _) cs x.sites n) ti x.fn.ntmps (Y9 x.fn) (Si ti x.fn.results.toList x.pre.length (Jr x.ret (@bN x.ρ x.inst))) (SY 60 p) σ
 | none=>none
def BX.st (x:BX) (lv:List Lf):Option St:=
 match HK x.args lv with
 | some (xs1,l)=>(match Y7 xs1 with
  | some xs=>(match Ei x.pre l with
   | some (os,_)=>some ⟨slotsOf xs 0,B9 os 0,0⟩
   | none=>none)
  | none=>none)
 | none=>none
def Js:(l:List Ty)→Vo γ l
 | []=>none
 | .I::l=>fun _=>Js l
 | .B::l=>fun _=>Js l
 | .S::l=>fun _=>Js l
 | .L::l=>fun _=>Js l
theorem Sl:∀{l:List Ty}{v:List Lf},Vp l (Js (γ:=γ) l) v≠some r
 | l,v,h=>by
  have:Js (γ:=γ) l=NK l fun _=>none:=by
   clear h
   induction l with
   | nil=>rfl
   | cons t l ih=>cases t<;>(funext z;exact ih)
  rw[this]at h
  cases Fb h
def nA (γ:Type):List (Site γ)→Type
 | []=>Unit
 | s::l=>(Vo γ (Sf s.sk (XA s.hk))×(Nat→Vo γ (Sf s.sk (XA s.hk))))×nA γ l
def Kw:(l:List (Site γ))→nA γ l
 | []=>()
 | s::l=>((s.app 0,fun n=>s.app (n+1)),Kw l)
def Kx (go:Nat→Nat→Option St→Option γ):(l:List (Site γ))→nA γ l
 | []=>()
 | s::l=>((Js _,fun n=>NK _ fun lv=>go n s.p (s.st lv)),Kx go l)
def BX.zN (ds:(γ:Type)→Ds γ) (ti:Types) (x:BX) (cs:List BQ):Prop:=
 Kw x.sites=Kx (BX.go ds ti x cs) x.sites∧(x.F 0,fun n=>x.F (n+1))=(Js _,fun n=>NK _ fun lv=>BX.go ds ti x cs n 1 (x.st lv))
def BX.xI (ds:(γ:Type)→Ds γ) (ti:Types) (x:BX) (cs:List BQ):Prop:=
 Kw x.sites=Kx (BX.go ds ti x cs) x.sites∧x.F=fun n=>NK _ fun lv=>BX.go ds ti x cs n 1 (x.st lv)
theorem Vr {go:Nat→Nat→Option St→Option γ}:∀{l:List (Site γ)},Kw l=Kx go l→∀s∈l,(s.app 0=Js _∧(fun n=>s.app (n+1))=fun n=>NK _ fun lv=>go n s.p (s.st lv))
 | s::l,h,t,ht=>by
  have h1:=congrArg (fun x:nA γ (s::l)=>x.1) h
  have h2:=congrArg (fun x:nA γ (s::l)=>x.2) h
  cases ht with
  | head=>exact⟨congrArg Prod.fst h1,congrArg Prod.snd h1⟩
  | tail _ ht=>exact Vr h2 t ht
 | [],_,_,ht=>by cases ht
def BX.fits (P:Program) (x:BX):Bool:=
 (match x.fn.body with
 | some _=>true
 | none=>false)&&!(x.fn.name== "runtime.NumGoroutine")&&Nat.ble x.args.length x.fn.ntmps&&B3 (fun s:Site x.ρ=>Nat.beq (B0 (SY 60 s.p)) s.p) x.sites
theorem Vs:∀{l:List AV}{xs:List V1},Y7 l=some xs→xs.length=l.length
 | [],xs,h=>by cases h;rfl
 | .v x::l,xs,h=>by
  unfold Y7 at h
  split at h
  ·rename_i m hm;cases h;simp[Vs hm]
  ·cases h
theorem PJ:∀{s:List Jo}{l:List Lf}{xs1:List AV}{q:List Lf},HK s l=some (xs1,q)→xs1.length=s.length
 | [],l,xs1,q,h=>by cases h;rfl
 | s::ss,l,xs1,q,h=>by
  unfold HK at h
  split at h
  ·split at h
   ·rename_i h2;cases h;simp[PJ h2]
   ·cases h
  ·cases h
theorem PK:∀{s:List (List Sk)}{l:List Lf}{xs1:List AF}{q:List Lf},Ei s l=some (xs1,q)→xs1.length=s.length
 | [],l,xs1,q,h=>by cases h;rfl
 | s::ss,l,xs1,q,h=>by
  unfold Ei at h
  split at h
  ·split at h
   ·rename_i h2;cases h;simp[PK h2]
   ·cases h
  ·cases h
theorem BX.step {P:Program}{I:Inv}{ti:Types}(hti:BO P ti) (h1:Bt ti) (hm:P.follows .mixedOrders=true) {ds:(γ:Type)→Ds γ}(hd:∀γ,(ds γ).ok) {x:BX}{cs:List BQ}(hf:P.funcs[x.f]?=some x.fn) (hx:x.fits P=true) (he:Kw x.sites=Kx (BX.go ds ti x cs) x.sites) {N:Nat}(hc:∀m,m≤N→∀c∈cs,c.ok P I m) {lv:List Lf}{p:x.ρ}(hp:BX.go ds ti x cs N 1 (x.st lv)=some p):
  ∀xs1 pre ret l1 l2,HK x.args lv=some (xs1,l1)→Ei x.pre l1=some (pre,l2)→Qz x.ret (x.inst.pack p)=some ret→∀xs,Y7 xs1=some xs→Ah P I x.f xs pre ret.res ret.post ret.new:=by
 intro xs1 pre ret l1 l2 e1 e2 e3 xs e4
 unfold BX.fits at hx
 simp only[Bool.and_eq_true,Bool.not_eq_true']at hx
 obtain⟨⟨⟨g1,g2⟩,g3⟩,g4⟩:=hx
 obtain⟨c,hb⟩:∃c,x.fn.body=some c:=by
  cases hb:x.fn.body with
  | none=>rw[hb]at g1;cases g1
  | some c=>exact⟨c,rfl⟩
 have hbody:Y9 x.fn=c:=by unfold Y9;rw[hb]
 have hst:x.st lv=some ⟨slotsOf xs 0,B9 pre 0,0⟩:=by unfold BX.st;rw[e1];simp only[e4,e2]
 rw[hst]at hp
 unfold BX.go at hp
 simp only[]at hp
 have hpre:x.pre.length=pre.length:=(PK e2).symm
 refine iQ (γ:=x.ρ) (r:=p) (N:=N) (np:=x.pre.length) (rk:=x.ret) (out:=@bN x.ρ x.inst) (ss:=x.sites) hti h1 hm hf hb g2 rfl (by rw[Vs e4,PJ e1];exact g3) rfl (hd _) hc (fun s hs=>?_) (by rw[←hbody];exact hp) (fun l hl=>?_)
 ·obtain⟨k1,k2⟩:=Vr he s hs
  refine⟨fun lv r=>by rw[k1];exact Sl,?_,fun n lv σ r q1 q2=>?_⟩
  ·exact Nat.eq_of_beq_eq_true (BN.1 g4 s hs)
  ·rw[show s.app (n+1)=_ from congrFun k2 n]at q1
   have:=Fb q1
   rw[q2]at this
   rw[←hbody]
   exact this
 ·have:=@XB _ x.inst _ _ hl
  rw[this,e3]
theorem BX.rN {P:Program}{I:Inv}{x:BX}{n:Nat}(h:∀lv p,Vp _ (x.F n) lv=some p→∀xs1 pre ret l1 l2,HK x.args lv=some (xs1,l1)→Ei x.pre l1=some (pre,l2)→Qz x.ret (x.inst.pack p)=some ret→∀xs,Y7 xs1=some xs→Ah P I x.f xs pre ret.res ret.post ret.new):x.c.ok P I n:=by
 intro lv p hp xs1 pre rk ret l1 l2 e1 e2 e3 e4 xs e5
 have:some x.ret=some rk:=e3
 cases this
 exact h lv p hp xs1 pre ret l1 l2 e1 e2 e4 xs e5
def Cv (P:Program) (I:Inv):List BQ→Prop
 | []=>True
 | c::l=>(∀n,c.ok P I n)∧Cv P I l
def allEq (P:Program) (ds:(γ:Type)→Ds γ) (ti:Types) (cs:List BQ):List BX→Prop
 | []=>True
 | x::l=>(P.funcs[x.f]?=some x.fn∧x.fits P=true∧x.zN ds ti cs)∧allEq P ds ti cs l
theorem Ky {P:Program}{I:Inv}:∀{l:List BQ},Cv P I l→∀c∈l,∀n,c.ok P I n
 | c::l,h,d,hd=>by
  cases hd with
  | head=>exact h.1
  | tail _ hd=>exact Ky h.2 d hd
 | [],_,_,hd=>by cases hd
theorem PL {P:Program}{ds:(γ:Type)→Ds γ}{ti:Types}{cs:List BQ}:∀{l:List BX},allEq P ds ti cs l→∀x∈l,P.funcs[x.f]?=some x.fn∧x.fits P=true∧x.zN ds ti cs
 | c::l,h,d,hd=>by
  cases hd with
  | head=>exact h.1
  | tail _ hd=>exact PL h.2 d hd
 | [],_,_,hd=>by cases hd
theorem Sm {P:Program}{I:Inv}:∀{g:List BX},(∀x∈g,∀n,x.c.ok P I n)→Cv P I (g.map BX.c)
 | [],_=>trivial
 | x::g,h=>⟨h x (List.mem_cons_self ..),Sm fun y hy=>h y (List.mem_cons_of_mem _ hy)⟩
theorem group {P:Program}{I:Inv}{ti:Types}(hti:BO P ti) (h1:Bt ti) (hm:P.follows .mixedOrders=true) {ds:(γ:Type)→Ds γ}(hd:∀γ,(ds γ).ok) {g:List BX}{cs:List BQ}(hc:Cv P I cs) (he:allEq P ds ti (g.map BX.c++cs) g):Cv P I (g.map BX.c):=by
 have main:∀n,∀x∈g,x.c.ok P I n:=by
  intro n
  induction n using Nat.strongRecOn with
  | _ n ih=>
   have rec1:∀N,N<n→∀m,m≤N→∀c∈g.map BX.c++cs,c.ok P I m:=by
    intro N hN m hm c hcm
    rcases List.mem_append.1 hcm with h | h
    ·obtain⟨y,hy,rfl⟩:=List.mem_map.1 h
     exact ih m (Nat.lt_of_le_of_lt hm hN) y hy
    ·exact Ky hc c h m
   intro x hx
   refine BX.rN fun lv p hp=>?_
   obtain⟨hf,hfit,heq⟩:=PL he x hx
   have e0:=congrArg Prod.fst heq.2
   have e1:=congrArg Prod.snd heq.2
   simp only[]at e0 e1
   cases n with
   | zero=>rw[e0]at hp;exact absurd hp Sl
   | succ N=>
    rw[show x.F (N+1)=_ from congrFun e1 N]at hp
    exact BX.step hti h1 hm hd hf hfit heq.1 (rec1 N (Nat.lt_succ_self N)) (Fb hp)
 exact Sm fun x hx n=>main n x hx
theorem single {P:Program}{I:Inv}{ti:Types}(hti:BO P ti) (h1:Bt ti) (hm:P.follows .mixedOrders=true) {ds:(γ:Type)→Ds γ}(hd:∀γ,(ds γ).ok) {x:BX}{cs:List BQ}(hc:Cv P I cs) (hf:P.funcs[x.f]?=some x.fn) (hx:x.fits P=true) (he:x.xI ds ti cs) (n:Nat):x.c.ok P I n:=by
 refine BX.rN fun lv p hp=>?_
 rw[show x.F n=_ from congrFun he.2 n]at hp
 exact BX.step hti h1 hm hd hf hx he.1 (fun m _ c hcm=>Ky hc c hcm m) (Fb hp)
structure Kn (P:Program) (I:Inv) where
 c:BQ
 ok:∀n,c.ok P I n
def lO {P:Program}{I:Inv}:List (Kn P I)→List BQ
 | []=>[]
 | x::l=>x.c::lO l
theorem iR {P:Program}{I:Inv}:∀l:List (Kn P I),Cv P I (lO l)
 | []=>trivial
 | x::l=>⟨x.ok,iR l⟩
def OG:List BX→List BQ
 | []=>[]
 | x::l=>x.c::OG l
theorem U1:∀l:List BX,OG l=l.map BX.c
 | []=>rfl
 | x::l=>by rw[OG,U1 l];rfl
def ZA:List BQ→List BQ→List BQ
 | [],m=>m
 | x::l,m=>x::ZA l m
theorem Vt (m:List BQ):∀l,ZA l m=l++m
 | []=>rfl
 | x::l=>by rw[ZA,Vt m l];rfl
theorem bQ {P:Program}{I:Inv}{ti:Types}(hti:BO P ti) (h1:Bt ti) (hm:P.follows .mixedOrders=true) {ds:(γ:Type)→Ds γ}(hd:∀γ,(ds γ).ok) {g:List BX}(l:List (Kn P I)) (he:allEq P ds ti (ZA (OG g) (lO l)) g):Cv P I (OG g):=by
 rw[U1]
 rw[Vt,U1]at he
 exact group hti h1 hm hd (iR l) he
def ZB {P:Program}{I:Inv}{ti:Types}(hti:BO P ti) (h1:Bt ti) (hm:P.follows .mixedOrders=true) {ds:(γ:Type)→Ds γ}(hd:∀γ,(ds γ).ok) (x:BX) (l:List (Kn P I)) (hf:P.funcs[x.f]?=some x.fn) (hx:x.fits P=true) (h2:Kw x.sites=Kx (BX.go ds ti x (lO l)) x.sites) (h3:x.F=fun n=>NK _ fun lv=>BX.go ds ti x (lO l) n 1 (x.st lv)):Kn P I:=
 ⟨x.c,single hti h1 hm hd (iR l) hf hx ⟨h2,h3⟩⟩
end
end Go.AM
set_option maxRecDepth 100000
set_option maxHeartbeats 40000000
set_option linter.unusedVariables false
noncomputable section
namespace Go.Proofs.YtjmofeakajdbiaaGreatDoor
open Go Go.AM
noncomputable def tB (γ:Type):Ds γ:=fun t x k=>match Nat.beq t 45 with
 | true=>BU x fun a0 a1 a2 a3 a4 a5 a6 a7 a8 a9 a10 a11 a12 a13 a14 a15=>k (.agg [.int .u8 a0,.str a1,.list true 4 a2,.int .u8 a3,.str a4,.list true 3 a5,.list true 15 a6,.int .u8 a7,.int .i64 a8,.str a9,.str a10,.str a11,.list false 1 a12,.list true 8 a13,.int .i64 a14,.int .i64 a15])
 | false=>match Nat.beq t 74 with
 | true=>Bv x fun a0 a1 a2 a3=>k (.agg [.str a0,.int .u8 a1,.str a2,.list true 3 a3])
 | false=>match Nat.beq t 33 with
 | true=>Cf x fun a0 a1 a2=>k (.agg [.int .u8 a0,.str a1,.list true 3 a2])
 | false=>match Nat.beq t 50 with
 | true=>BJ x fun a0 a1 a2 a3 a4 a5 a6 a7 a8 a9 a10 a11 a12 a13 a14=>k (.agg [.int .u8 a0,.str a1,.str a2,.list false 1 a3,.int .u8 a4,.str a5,.list true 3 a6,.int .i64 a7,.str a8,.list false 1 a9,.list true 8 a10,.list true 15 a11,.list true 15 a12,.list true 3 a13,.int .i64 a14])
 | false=>match Nat.beq t 9 with
 | true=>Bj x fun a0=>k (.str a0)
 | false=>match Nat.beq t 39 with
 | true=>BD x fun a0 a1 a2 a3 a4 a5 a6 a7=>k (.agg [.int .u8 a0,.int .i64 a1,.str a2,.str a3,.str a4,.list false 1 a5,.list true 8 a6,.int .i64 a7])
 | false=>match Nat.beq t 95 with
 | true=>Bf x fun a0 a1 a2=>k (.agg [.str a0,.str a1,.list true 15 a2])
 | false=>match Nat.beq t 3 with
 | true=>M5 x fun a0=>k (.int .i64 a0)
 | false=>match Nat.beq t 43 with
 | true=>Bd x fun a0=>k (.list true 15 a0)
 | false=>k x
theorem ZC (γ:Type):(tB γ).ok:=fun t x k r h=>by
 unfold tB at h
 split at h
 ·obtain⟨a0,a1,a2,a3,a4,a5,a6,a7,a8,a9,a10,a11,a12,a13,a14,a15,rfl,h⟩:=FD h;exact h
 split at h
 ·obtain⟨a0,a1,a2,a3,rfl,h⟩:=M3 h;exact h
 split at h
 ·obtain⟨a0,a1,a2,rfl,h⟩:=JF h;exact h
 split at h
 ·obtain⟨a0,a1,a2,a3,a4,a5,a6,a7,a8,a9,a10,a11,a12,a13,a14,rfl,h⟩:=DU h;exact h
 split at h
 ·obtain⟨a0,rfl,h⟩:=M4 h;exact h
 split at h
 ·obtain⟨a0,a1,a2,a3,a4,a5,a6,a7,rfl,h⟩:=FE h;exact h
 split at h
 ·obtain⟨a0,a1,a2,rfl,h⟩:=FF h;exact h
 split at h
 ·obtain⟨a0,rfl,h⟩:=M6 h;exact h
 split at h
 ·obtain⟨a0,rfl,h⟩:=Dj h;exact h
 exact h
abbrev Kz:=Kn Tryz.prog inv
noncomputable def sg:=@ZB Tryz.prog inv _ BI Ao Fi _ ZC
theorem gr {g:List BX}(l:List Kz) (he:allEq Tryz.prog tB AI (ZA (OG g) (lO l)) g):Cv Tryz.prog inv (OG g):=bQ BI Ao Fi ZC l he
def NM (n:Nat) (s1:BA):Option (Bool):=
 bO1 (Yn n) fun l2=>(findF false (.str s1) l2 (fun x3=>M5 x3 fun z4=>(if (0:Int)<z4 then some true else some false)) (some false))
theorem tC (n:Nat):∀⦃s1 r1⦄,NM n s1=some r1->
    Ah Tryz.prog inv 144 [.d (.str s1)] [] (.v (.d (.bool r1))) [] []:=by
 intro s1 r1 h
 unfold NM at h
 refine Ah.of BI Ao Fi Tryz.func144 rfl (by kernel_rfl) rfl rfl rfl (fun M hM hI=>?_)
 try cbv
 refine AB ?_
 try cbv
 refine AB ?_
 try cbv
 replace h:=AU h
 obtain⟨l2,hr,h⟩:=h
 refine AZ rfl rfl ?_
 try cbv
 refine Al hM hI [] (sX _ hr) rfl (by simp) trivial trivial (by simp) ?_
 clear hr
 try cbv
 replace h:=W7 h
 rcases h with⟨x3,hz,h⟩ | ⟨hz,h⟩
 ·replace h:=M6 h
  obtain⟨z4,rfl,h⟩:=h
  refine⟨some _,(M.lock_iff _).2 hz,?_⟩
  clear hz
  try cbv
  refine Bu (fun e=>?_) (fun e=>?_)
  ·replace h:=Aj e h
   clear e
   try cbv
   obtain rfl:=Option.some.inj h
   refine AR ?_
   try cbv
   exact⟨[],by trivial⟩
  replace h:=Ak (Int.not_lt.2 e) h
  clear e
  try cbv
  obtain rfl:=Option.some.inj h
  refine AR ?_
  try cbv
  exact⟨[],by trivial⟩
 refine⟨none,(M.lock_iff _).2 hz,?_⟩
 clear hz
 try cbv
 refine YI (by decide) ?_
 try cbv
 obtain rfl:=Option.some.inj h
 refine AR ?_
 try cbv
 exact⟨[],by trivial⟩
noncomputable def tD:BQ:=⟨144,[.s],[],[⟨.one (.b),[],[]⟩],Bool,inferInstance,NM⟩
noncomputable def nB:Kz:=⟨tD,fun n=>Cm fun s1 p h w1 w2 w4 w3 l1 l2 e1 e2 e5 e3 xs e4=>by cases e1;cases e2;cases e4;cases e5;cases e3;exact tC n h⟩
mutual
def K2:Nat->BA->Int->Option (Bool)
 | 0,_,_=>none
 | n+1,s1,z2=>
  (if z2<(47:Int)then NN n s1 z2 true else NN n s1 z2 false)
def NN:Nat->BA->Int->Bool->Option (Bool)
 | 0,_,_,_=>none
 | n+1,s1,z2,b3=>
  (if b3=true then Ap ([.str Yc,.str hJ,.str Ud,.str QX,.str QY,.str QZ,.str Qa,.str Ue,.str hY,.str Uf,.str Ug,.str iA,.str M7,.str Uh,.str Ui,.str Qb,.str Yd,.str iB,.str Ye,.str Yf,.str Uj,.str Uk,.str Yg,.str Yh,.str Qc,.str Ul,.str Yi,.str Yj,.str iC,.str Yk,.str Qd,.str Qe,.str Um,.str M8,.str Un,.str Qf,.str Qg,.str Uo,.str Up,.str Yl,.str Uq,.str iE,.str Ym,.str Qh,.str M9,.str NA,.str JG]) z2 fun x4=>Bj x4 fun s5=>(if s5=s1 then Q0 n s1 z2 true else Q0 n s1 z2 false)else some false)
def Q0:Nat->BA->Int->Bool->Option (Bool)
 | 0,_,_,_=>none
 | n+1,s1,z2,b6=>
  (if b6=true then some true else AJ (IntKind.wrap .i64 (z2+1)) fun z7=>K2 n s1 z7)
end
def bR (n:Nat) (s1:BA):Option (Bool):=
 K2 n s1 (0:Int)
end Go.Proofs.YtjmofeakajdbiaaGreatDoor
end
set_option linter.unusedVariables false
noncomputable section
namespace Go.Proofs.YtjmofeakajdbiaaGreatDoor
open Go Go.AM
def bl (s:ByteArray):List UInt8:=s.data.toList
theorem Q1 (s:ByteArray):s.size=(bl s).length:=(Array.length_toList (xs:=s.data)).symm
theorem Q2 {s t:ByteArray}(h:bl s=bl t):s=t:=by
 cases s;cases t
 simp only[bl]at h
 rw[Array.toList_inj.1 h]
theorem Dl {γ:Type}{s:ByteArray}{i:Nat}{b:UInt8}{k:Int→Option γ}(h:(bl s)[i]?=some b):Tz s (i:Int) k=k (b.toNat:Int):=by
 have hlt:i<s.size:=by rw[Q1];exact (List.getElem?_eq_some_iff.1 h).1
 have hb:s[i]=b:=by
  have:=(List.getElem?_eq_some_iff.1 h).2
  rw[←this]
  simp[bl]
  rfl
 have h1:s[(i:Int).toNat]?=some b:=by
  rw[Int.toNat_natCast,getElem?_pos s i hlt,hb]
 unfold Tz
 rw[if_pos (Int.natCast_nonneg i),h1]
 rfl
theorem Ch {γ:Type}{s:ByteArray}{k:Int→Option γ}:N3 s k=k ((bl s).length:Int):=by
 unfold N3
 rw[Q1]
def CI:List ByteArray:=[Yc,hJ,Ud,QX,QY,QZ,Qa,Ue,hY,Uf,Ug,iA,M7,Uh,Ui,Qb,Yd,iB,Ye,Yf,Uj,Uk,Yg,Yh,Qc,Ul,Yi,Yj,iC,Yk,Qd,Qe,Um,M8,Un,Qf,Qg,Uo,Up,Yl,Uq,iE,Ym,Qh,M9,NA,JG]
def word (s:ByteArray):Bool:=CI.any fun w=>decide (bl w=bl s)
theorem Sn {s:ByteArray}:word s=true↔s∈CI:=by
 unfold word
 rw[List.any_eq_true]
 constructor
 ·rintro⟨w,hw,h⟩
  rw[←Q2 (of_decide_eq_true h)];exact hw
 ·intro h
  exact⟨s,h,decide_eq_true rfl⟩
theorem bT {s:ByteArray}(h:s∉CI):word s=false:=by
 cases hw:word s
 ·rfl
 ·exact absurd (Sn.1 hw) h
theorem K3 {a b:ByteArray}:(a==b)=true↔a=b:=by
 rw[beq_toListBytes]
 constructor
 ·intro h
  have h:=eq_of_beq h
  rw[ByteArray.toList_eq,ByteArray.toList_eq]at h
  exact Q2 h
 ·rintro rfl
  exact beq_self_eq_true _
inductive Hw:List ByteArray→List D→Prop where
 | nil:Hw [] []
 | cons {w:ByteArray} {z:Int} {ws:List ByteArray} {rows:List D} (hz:0<z) (h:Hw ws rows):Hw (w::ws) (.agg [.str w,.int .i64 z]::rows)
theorem Hw.find {s:ByteArray}:∀{ws:List ByteArray}{rows:List D},Hw ws rows→(s∉ws∧HI false (.str s) rows=some none)∨∃z,s∈ws∧0<z∧HI false (.str s) rows=some (some (.int .i64 z))
 | _,_,.nil=>.inl ⟨by simp,rfl⟩
 | _,_,.cons (w:=w) (z:=z) (ws:=ws) (rows:=rows) hz h=>by
  cases hb:(s==w)with
  | true=>
   have:=K3.1 hb
   subst this
   exact .inr ⟨z,by simp,hz,by simp[HI,Z5,hb,rowOf]⟩
  | false=>
   have hne:s≠w:=fun e=>by rw[K3.2 e]at hb;cases hb
   rcases h.find (s:=s)with⟨h1,h2⟩ | ⟨z',h1,h2,h3⟩
   ·exact .inl ⟨by simp[hne,h1],by simp[HI,Z5,hb,h2]⟩
   ·exact .inr ⟨z',by simp[h1],h2,by simp[HI,Z5,hb,h3]⟩
theorem Hw.put {s:ByteArray}{z:Int}(hz:0<z):∀{ws:List ByteArray}{rows:List D},Hw ws rows→∃ws' rows',P4 (.str s) [.int .i64 z] rows=some rows'∧Hw ws' rows'∧∀t,t∈ws'↔t=s∨t∈ws
 | _,_,.nil=>⟨[s],_,rfl,.cons hz .nil,by simp⟩
 | _,_,.cons (w:=w) (z:=z') (ws:=ws) (rows:=rows) hz' h=>by
  cases hb:(s==w)with
  | true=>
   have:=K3.1 hb
   subst this
   exact⟨s::ws,.agg [.str s,.int .i64 z]::rows,by simp[P4,Z5,hb],.cons hz h,by intro t;simp⟩
  | false=>
   obtain⟨ws',rows',h1,h2,h3⟩:=h.put (s:=s) hz
   refine⟨w::ws',.agg [.str w,.int .i64 z']::rows',by simp[P4,Z5,hb,h1],.cons hz' h2,fun t=>?_⟩
   simp only[List.mem_cons,h3]
   constructor
   ·rintro (h | h | h)<;>simp[h]
   ·rintro (h | h | h)<;>simp[h]
theorem Q3:fieldsD BW=CI.map D.str:=by kernel_rfl
theorem tE:Ev (fun n=>Yb n BW) (CI.map D.str):=Ev.of fun n=>by
 rw[←Q3]
 unfold Yb
 have h1:Nat.ble (BW).size 1000=true:=by kernel_rfl
 have h1:=Nat.le_of_ble_eq_true h1
 have h2:(Lib.fields (BW).data.toList).length=47:=by kernel_rfl
 rw[if_pos (by rw[h2];exact⟨by omega,by kernel_rfl,by decide⟩)]
theorem Gb:CI.length=47:=rfl
theorem tF:∃ws rows,Ev (fun n=>Yn n) rows∧Hw ws rows∧∀t,t∈ws↔t∈CI:=by
 have main:∀i:Nat,i≤47→∀ws rows,Hw ws rows→∃ws' rows',Ev (fun n=>Fj n (CI.map D.str) 47 (i:Int) rows) rows'∧Hw ws' rows'∧∀t,t∈ws'↔t∈CI.drop i∨t∈ws:=by
  refine down 47 ?_ ?_
  ·intro ws rows h
   refine⟨ws,rows,.succ (.succ (.of fun n=>?_)),h,fun t=>?_⟩
   ·rw[Fj,if_neg (by omega),GZ,if_neg Bool.false_ne_true]
   ·rw[List.drop_eq_nil_of_le (by rw[Gb];omega)]
    simp
  ·intro i hi ih ws rows h
   have hlt:i<CI.length:=by rw[Gb];exact hi
   obtain⟨ws1,rows1,h1,h2,h3⟩:=h.put (s:=CI[i]) (z:=((i+1:Nat):Int)) (by omega)
   obtain⟨ws2,rows2,h4,h5,h6⟩:=ih ws1 rows1 h2
   refine⟨ws2,rows2,.succ (.succ (h4.congr fun n=>?_)),h5,fun t=>?_⟩
   ·have hw:(CI.map D.str)[i]?=some (.str CI[i]):=by simp[hlt]
    rw[Fj,if_pos (by omega),GZ,if_pos rfl,AH hw]
    simp only[Bj,AJ,AG (N:=47) hi (by decide)]
    unfold bB
    rw[h1]
   ·rw[h6,h3,List.drop_eq_getElem_cons hlt]
    simp only[List.mem_cons]
    constructor
    ·rintro (h | h | h)<;>simp[h]
    ·rintro ((h | h) | h)<;>simp[h]
 obtain⟨ws,rows,h1,h2,h3⟩:=main 0 (by omega) [] [] .nil
 refine⟨ws,rows,?_,h2,by simpa using h3⟩
 unfold Yn
 refine Ev.bO1 tE (h1.congr fun n=>?_)
 unfold AE
 rfl
theorem tG (s:ByteArray):Ev (fun n=>NM n s) (word s):=by
 obtain⟨ws,rows,h1,h2,h3⟩:=tF
 unfold NM
 refine Ev.bO1 h1 (Ev.of fun n=>?_)
 unfold findF
 rcases h2.find (s:=s)with⟨h4,h5⟩ | ⟨z,h4,h5,h6⟩
 ·rw[h5]
  have:s∉CI:=fun h=>h4 ((h3 s).2 h)
  rw[bT this]
 ·rw[h6]
  have:s∈CI:=(h3 s).1 h4
  rw[Sn.2 this]
  simp[M5,h5]
theorem tH (s:ByteArray):Ev (fun n=>bR n s) (word s):=by
 have main:∀i:Nat,i≤47→Ev (fun n=>K2 n s (i:Int)) ((CI.drop i).any fun w=>decide (bl w=bl s)):=by
  refine down 47 ?_ ?_
  ·refine .succ (.succ (.of fun n=>?_))
   rw[K2,if_neg (by omega),NN,if_neg Bool.false_ne_true,List.drop_eq_nil_of_le (by rw[Gb];omega)]
   rfl
  ·intro i hi ih
   have hlt:i<CI.length:=by rw[Gb];exact hi
   have hw:(CI.map D.str)[i]?=some (.str CI[i]):=by simp[hlt]
   have hw:([.str Yc,.str hJ,.str Ud,.str QX,.str QY,.str QZ,.str Qa,.str Ue,.str hY,.str Uf,.str Ug,.str iA,.str M7,.str Uh,.str Ui,.str Qb,.str Yd,.str iB,.str Ye,.str Yf,.str Uj,.str Uk,.str Yg,.str Yh,.str Qc,.str Ul,.str Yi,.str Yj,.str iC,.str Yk,.str Qd,.str Qe,.str Um,.str M8,.str Un,.str Qf,.str Qg,.str Uo,.str Up,.str Yl,.str Uq,.str iE,.str Ym,.str Qh,.str M9,.str NA,.str JG]:List D)[i]?=some (.str CI[i]):=hw
   rw[List.drop_eq_getElem_cons hlt,List.any_cons]
   by_cases he:CI[i]=s
   ·refine .succ (.succ (.succ (.of fun n=>?_)))
    rw[K2,if_pos (by omega),NN,if_pos rfl,AH hw]
    simp only[Bj]
    rw[if_pos he,Q0,if_pos rfl,decide_eq_true (congrArg bl he)]
    rfl
   ·rw[decide_eq_false (fun e=>he (Q2 e)),Bool.false_or]
    refine .succ (.succ (.succ (ih.congr fun n=>?_)))
    rw[K2,if_pos (by omega),NN,if_pos rfl,AH hw]
    simp only[Bj]
    rw[if_neg he,Q0,if_neg Bool.false_ne_true]
    simp only[AJ,AG (N:=47) hi (by decide)]
 have:=main 0 (by omega)
 unfold bR word
 exact this
end Go.Proofs.YtjmofeakajdbiaaGreatDoor
set_option linter.unusedVariables false
noncomputable section
namespace Go.Proofs.YtjmofeakajdbiaaGreatDoor
open Go Go.AM
def ZD (n:Nat) (z1:Int):Option (Bool):=
 (if (97:Int)<=z1 then (if z1<=(122:Int)then some true else some false)else some false)
noncomputable def tI:BX:=⟨123,Tryz.f123,[.y],[],⟨.one (.b),[],[]⟩,Bool,inferInstance,ZD,[]⟩
noncomputable def nC:Kz:=sg tI [] Tryz.func123 (by kernel_rfl) (by kernel_rfl) (by kernel_rfl)
def ZE (n:Nat) (z1:Int):Option (Bool):=
 (if (65:Int)<=z1 then (if z1<=(90:Int)then some true else some false)else some false)
noncomputable def tJ:BX:=⟨122,Tryz.f122,[.y],[],⟨.one (.b),[],[]⟩,Bool,inferInstance,ZE,[]⟩
noncomputable def nD:Kz:=sg tJ [] Tryz.func122 (by kernel_rfl) (by kernel_rfl) (by kernel_rfl)
def bU (n:Nat) (z1:Int):Option (Bool):=
 (if (48:Int)<=z1 then (if z1<=(57:Int)then some true else some false)else some false)
noncomputable def tK:BX:=⟨150,Tryz.f150,[.y],[],⟨.one (.b),[],[]⟩,Bool,inferInstance,bU,[]⟩
noncomputable def tL:Kz:=sg tK [] Tryz.func150 (by kernel_rfl) (by kernel_rfl) (by kernel_rfl)
def bV (n:Nat) (z1:Int):Option (Bool):=
 bO1 (ZD n z1) fun b2=>(if b2=true then some true else bO1 (ZE n z1) fun b3=>(if b3=true then some true else bO1 (bU n z1) fun b4=>(if b4=true then some true else (if z1=(95:Int)then some true else some false))))
noncomputable def tM:BX:=⟨143,Tryz.f143,[.y],[],⟨.one (.b),[],[]⟩,Bool,inferInstance,bV,[]⟩
noncomputable def tN:Kz:=sg tM [nD,nC,tL] Tryz.func143 (by kernel_rfl) (by kernel_rfl) (by kernel_rfl)
mutual
def JL:Nat->BA->Int->Option (Int)
 | 0,_,_=>none
 | n+1,s1,z2=>
  N3 s1 fun z3=>(if z2<z3 then Tz s1 z2 fun z4=>bO1 (bV n z4) fun b5=>K4 n s1 z2 b5 else K4 n s1 z2 false)
def K4:Nat->BA->Int->Bool->Option (Int)
 | 0,_,_,_=>none
 | n+1,s1,z2,b6=>
  (if b6=true then AJ (IntKind.wrap .i64 (z2+1)) fun z7=>JL n s1 z7 else some z2)
end
def So (n:Nat) (s1:BA):Option (Int):=
 JL n s1 (0:Int)
noncomputable def tO:BX:=⟨142,Tryz.f142,[.s,.one (.fn 143 [])],[],⟨.one (.z),[],[]⟩,Int,inferInstance,So,[⟨28,[0,1,4,5],[],64,[.s,.one (.fn 143 []),.k 0,.z],[],fun n s1 z2=>JL n s1 z2⟩,
 ⟨225,[0,1,4,5,16],[],416,[.s,.one (.fn 143 []),.k 0,.z,.b],[],fun n s1 z2 b6=>K4 n s1 z2 b6⟩]⟩
noncomputable def nF:Kz:=sg tO [tN] Tryz.func142 (by kernel_rfl) (by kernel_rfl) (by kernel_rfl)
def U2 (n:Nat) (s1:BA):Option (Bool):=
 (if s1=ByteArray.empty then some false else N3 s1 fun z2=>(if z2<=(16:Int)then Tz s1 (0:Int) fun z3=>bO1 (ZD n z3) fun b4=>(if b4=true then bO1 (So n s1) fun z5=>N3 s1 fun z6=>(if z5=z6 then bO1 (NM n s1) fun b7=>AL (!b7) fun b8=>some b8 else some false)else some false)else some false))
noncomputable def iT:BX:=⟨121,Tryz.f121,[.s,.one (.fn 123 [])],[],⟨.one (.b),[],[]⟩,Bool,inferInstance,U2,[]⟩
noncomputable def iU:Kz:=sg iT [nC,nF,nB] Tryz.func121 (by kernel_rfl) (by kernel_rfl) (by kernel_rfl)
def U3 (n:Nat) (s1:BA):Option (Bool):=
 bO1 (U2 n s1) fun b2=>some b2
noncomputable def zQ:BX:=⟨74,Tryz.f74,[.s],[],⟨.one (.b),[],[]⟩,Bool,inferInstance,U3,[]⟩
noncomputable def lP:Kz:=sg zQ [iU] Tryz.func74 (by kernel_rfl) (by kernel_rfl) (by kernel_rfl)
theorem xQ (n:Nat):∀⦃s1 r1⦄,U3 n s1=some r1->
  Ah Tryz.prog inv 74 [.d (.str s1)] [] (.v (.d (.bool r1))) [] []:=fun s1 r1 h=>lP.ok n [.S s1] _ h _ _ _ _ _ _ rfl rfl rfl rfl _ rfl
def iV (n:Nat) (z1:Int):Option (Bool):=
 (if (97:Int)<=z1 then (if z1<=(122:Int)then some true else (if (65:Int)<=z1 then (if z1<=(90:Int)then some true else (if (48:Int)<=z1 then (if z1<=(57:Int)then some true else (if z1=(95:Int)then some true else some false))else (if z1=(95:Int)then some true else some false)))else (if (48:Int)<=z1 then (if z1<=(57:Int)then some true else (if z1=(95:Int)then some true else some false))else (if z1=(95:Int)then some true else some false))))else (if (65:Int)<=z1 then (if z1<=(90:Int)then some true else (if (48:Int)<=z1 then (if z1<=(57:Int)then some true else (if z1=(95:Int)then some true else some false))else (if z1=(95:Int)then some true else some false)))else (if (48:Int)<=z1 then (if z1<=(57:Int)then some true else (if z1=(95:Int)then some true else some false))else (if z1=(95:Int)then some true else some false))))
mutual
def JM:Nat->BA->Int->Option (Bool)
 | 0,_,_=>none
 | n+1,s1,z9=>
  N3 s1 fun z10=>(if z9<z10 then NP n s1 z9 true else NP n s1 z9 false)
def NP:Nat->BA->Int->Bool->Option (Bool)
 | 0,_,_,_=>none
 | n+1,s1,z9,b11=>
  (if b11=true then Tz s1 z9 fun z12=>bO1 (iV n z12) fun b13=>AL (!b13) fun b14=>(if b14=true then some false else AJ (IntKind.wrap .i64 (z9+1)) fun z15=>JM n s1 z15)else some true)
end
def Fk:Nat->BA->Bool->Option (Bool)
 | 0,_,_=>none
 | n+1,s1,b8=>
  (if b8=true then some false else JM n s1 (0:Int))
def Sp (n:Nat) (s1:BA) (z2:Int) (z3:Int):Option (Bool):=
 (if s1=ByteArray.empty then Fk n s1 true else N3 s1 fun z4=>(if (16:Int)<z4 then Fk n s1 true else Tz s1 (0:Int) fun z5=>(if z5<z2 then Fk n s1 true else Tz s1 (0:Int) fun z6=>(if z3<z6 then Fk n s1 true else bO1 (bR n s1) fun b7=>Fk n s1 b7))))
def nG (n:Nat) (s1:BA):Option (Bool):=
 bO1 (Sp n s1 (97:Int) (122:Int)) fun b2=>some b2
def iW (n:Nat) (s1:BA):Option (Bool):=
 (if s1=ByteArray.empty then some false else N3 s1 fun z2=>(if z2<=(16:Int)then Tz s1 (0:Int) fun z3=>bO1 (ZE n z3) fun b4=>(if b4=true then bO1 (So n s1) fun z5=>N3 s1 fun z6=>(if z5=z6 then bO1 (NM n s1) fun b7=>AL (!b7) fun b8=>some b8 else some false)else some false)else some false))
noncomputable def tP:BX:=⟨121,Tryz.f121,[.s,.one (.fn 122 [])],[],⟨.one (.b),[],[]⟩,Bool,inferInstance,iW,[]⟩
noncomputable def tQ:Kz:=sg tP [nD,nF,nB] Tryz.func121 (by kernel_rfl) (by kernel_rfl) (by kernel_rfl)
def XE (n:Nat) (s1:BA):Option (Bool):=
 bO1 (iW n s1) fun b2=>some b2
noncomputable def zR:BX:=⟨73,Tryz.f73,[.s],[],⟨.one (.b),[],[]⟩,Bool,inferInstance,XE,[]⟩
noncomputable def tR:Kz:=sg zR [tQ] Tryz.func73 (by kernel_rfl) (by kernel_rfl) (by kernel_rfl)
theorem tT (n:Nat):∀⦃s1 r1⦄,XE n s1=some r1->
  Ah Tryz.prog inv 73 [.d (.str s1)] [] (.v (.d (.bool r1))) [] []:=fun s1 r1 h=>tR.ok n [.S s1] _ h _ _ _ _ _ _ rfl rfl rfl rfl _ rfl
def rP (n:Nat) (s1:BA):Option (Bool):=
 bO1 (Sp n s1 (65:Int) (90:Int)) fun b2=>some b2
end Go.Proofs.YtjmofeakajdbiaaGreatDoor
end
set_option linter.unusedVariables false
noncomputable section
namespace Go.Proofs.YtjmofeakajdbiaaGreatDoor
open Go Go.AM
def N4 (lo hi z:Int):Bool:=decide (lo≤z∧z≤hi)
def Jt (z:Int):Bool:=N4 97 122 z || N4 65 90 z || N4 48 57 z || decide (z=95)
def pB (b:UInt8):Bool:=Jt (b.toNat:Int)
theorem f32 (n:Nat) (z:Int):ZD n z=some (N4 97 122 z):=by
 unfold ZD N4
 grind
theorem f34 (n:Nat) (z:Int):ZE n z=some (N4 65 90 z):=by
 unfold ZE N4
 grind
theorem f67 (n:Nat) (z:Int):bU n z=some (N4 48 57 z):=by
 unfold bU N4
 grind
theorem f52 (n:Nat) (z:Int):bV n z=some (Jt z):=by
 unfold bV Jt
 rw[f32,f34,f67]
 simp only[bO1]
 cases N4 97 122 z<;>cases N4 65 90 z<;>cases N4 48 57 z<;>grind
theorem f53 (n:Nat) (z:Int):iV n z=some (Jt z):=by
 unfold iV Jt N4
 grind
theorem Vu {α:Type}{l pre rest:List α}{b:α}(h:pre++b::rest=l):l[pre.length]?=some b:=by
 rw[←h,List.getElem?_append_right (Nat.le_refl _)]
 simp
theorem fF {s:ByteArray}(hs:s.size≤maxLen):∀(rest pre:List UInt8),pre++rest=bl s→Ev (fun n=>JL n s (pre.length:Int)) (((pre.length+(rest.takeWhile pB).length:Nat):Int))
 | [],pre,h=>by
  refine .succ (.succ (.of fun n=>?_))
  rw[JL,Ch,←h,if_neg (by simp),K4,if_neg Bool.false_ne_true]
  simp
 | b::rest,pre,h=>by
  have hlt:pre.length<(bl s).length:=by rw[←h];simp
  have hb:=Vu h
  cases hp:pB b with
  | false=>
   refine .succ (.succ (.of fun n=>?_))
   rw[JL,Ch,if_pos (by omega),Dl hb,f52]
   simp only[bO1]
   rw[show Jt (b.toNat:Int)=false from hp,K4,if_neg Bool.false_ne_true]
   simp[hp]
  | true=>
   have ih:=fF hs rest (pre++[b]) (by simpa using h)
   have e:(pre++[b]).length+(rest.takeWhile pB).length=pre.length+((b::rest).takeWhile pB).length:=by
    simp[hp];omega
   rw[e]at ih
   refine .succ (.succ (ih.congr fun n=>?_))
   rw[JL,Ch,if_pos (by omega),Dl hb,f52]
   simp only[bO1]
   rw[show Jt (b.toNat:Int)=true from hp,K4,if_pos rfl]
   simp only[AJ]
   rw[AG (N:=(bl s).length) hlt (by rw[←Q1];exact hs)]
   simp
theorem tU {s:ByteArray}(hs:s.size≤maxLen):Ev (fun n=>So n s) (((bl s).takeWhile pB).length:Int):=by
 have:=fF hs (bl s) [] rfl
 unfold So
 simpa using this
def nm (lo hi:Int) (s:ByteArray):Bool:=
 match bl s with
 | []=>false
 | b::r=>decide ((b::r).length≤16)&&N4 lo hi (b.toNat:Int)&&(b::r).all pB&&!word s
theorem Fl {α:Type}{p:α→Bool}:∀{l:List α},((l.takeWhile p).length=l.length)↔l.all p=true
 | []=>by simp
 | x::l=>by
  cases h:p x
  ·simp[h]
  ·simp[h,Fl (l:=l)]
theorem IY {s:ByteArray}:s=ByteArray.empty↔bl s=[]:=by
 constructor
 ·rintro rfl;rfl
 ·intro h;exact Q2 h
theorem fG {G:Nat→Int→Option Bool}{lo hi:Int}(hG:∀n z,G n z=some (N4 lo hi z)) {s:ByteArray}(hs:s.size≤maxLen):
  Ev (fun n=>(if s=ByteArray.empty then some false else N3 s fun z2=>(if z2≤(16:Int)then Tz s (0:Int) fun z3=>bO1 (G n z3) fun b4=>(if b4=true then bO1 (So n s) fun z5=>N3 s fun z6=>(if z5=z6 then bO1 (NM n s) fun b7=>AL (!b7) fun b8=>some b8 else some false)else some false)else some false))) (nm lo hi s):=by
 cases h:bl s with
 | nil=>
  have hr:nm lo hi s=false:=by unfold nm;rw[h]
  rw[hr]
  exact .of fun n=>by rw[if_pos (IY.2 h)]
 | cons b r=>
  have hr:nm lo hi s=(decide ((b::r).length≤16)&&N4 lo hi (b.toNat:Int)&&(b::r).all pB&&!word s):=by unfold nm;rw[h]
  rw[hr]
  clear hr
  have hne:s≠ByteArray.empty:=fun e=>by rw[IY.1 e]at h;cases h
  have hb:(bl s)[0]?=some b:=by rw[h];rfl
  by_cases hl:(b::r).length≤16
  ·cases hz:N4 lo hi (b.toNat:Int)with
   | false=>
    refine .of fun n=>?_
    rw[if_neg hne,Ch,h,if_pos (by omega),show (0:Int)=((0:Nat):Int)from rfl,Dl hb,hG,hz]
    simp[bO1]
   | true=>
    have step:∀r',Ev (fun n=>bO1 (So n s) fun z5=>N3 s fun z6=>(if z5=z6 then bO1 (NM n s) fun b7=>AL (!b7) fun b8=>some b8 else some false)) r'→
      Ev (fun n=>(if s=ByteArray.empty then some false else N3 s fun z2=>(if z2≤(16:Int)then Tz s (0:Int) fun z3=>bO1 (G n z3) fun b4=>(if b4=true then bO1 (So n s) fun z5=>N3 s fun z6=>(if z5=z6 then bO1 (NM n s) fun b7=>AL (!b7) fun b8=>some b8 else some false)else some false)else some false))) r':=fun r' hr=>hr.congr fun n=>by
     rw[if_neg hne,Ch (s:=s) (k:=fun z2=>if z2≤(16:Int)then _ else _),h,if_pos (by omega),show (0:Int)=((0:Nat):Int)from rfl,Dl hb,hG,hz]
     simp[bO1]
    refine step _ (Ev.bO1 (tU hs) ?_)
    cases ha:(b::r).all pB with
    | false=>
     refine .of fun n=>?_
     rw[Ch,if_neg]
     ·simp
     ·intro e
      have:((bl s).takeWhile pB).length=(bl s).length:=by omega
      rw[Fl,h,ha]at this
      cases this
    | true=>
     refine Ev.congr (A:=fun n=>bO1 (NM n s) fun b7=>AL (!b7) fun b8=>some b8) ?_ fun n=>?_
     ·refine Ev.bO1 (tG s) (.of fun n=>?_)
      simp only[AL,decide_eq_true hl,Bool.true_and]
     ·rw[Ch,if_pos]
      have:=Fl.2 (h▸ha:(bl s).all pB=true)
      omega
  ·refine .of fun n=>?_
   rw[if_neg hne,Ch,h,if_neg (by omega),decide_eq_false hl]
   rfl
theorem tV {s:ByteArray}(hs:s.size≤maxLen):Ev (fun n=>U2 n s) (nm 97 122 s):=fG f32 hs
theorem iX {s:ByteArray}(hs:s.size≤maxLen):Ev (fun n=>iW n s) (nm 65 90 s):=fG f34 hs
theorem iY {s:ByteArray}(hs:s.size≤maxLen):Ev (fun n=>U3 n s) (nm 97 122 s):=Ev.bO1 (tV hs) .ret
theorem tW {s:ByteArray}(hs:s.size≤maxLen):Ev (fun n=>XE n s) (nm 65 90 s):=Ev.bO1 (iX hs) .ret
theorem fH {s:ByteArray}(hs:s.size≤maxLen):∀(rest pre:List UInt8),pre++rest=bl s→Ev (fun n=>JM n s (pre.length:Int)) (rest.all pB)
 | [],pre,h=>by
  refine .succ (.succ (.of fun n=>?_))
  rw[JM,Ch,←h,if_neg (by simp),NP,if_neg Bool.false_ne_true]
  simp
 | b::rest,pre,h=>by
  have hlt:pre.length<(bl s).length:=by rw[←h];simp
  have hb:=Vu h
  cases hp:pB b with
  | false=>
   refine .succ (.succ (.of fun n=>?_))
   rw[JM,Ch,if_pos (by omega),NP,if_pos rfl,Dl hb,f53]
   simp only[bO1,AL]
   rw[show Jt (b.toNat:Int)=false from hp]
   simp[hp]
  | true=>
   have ih:=fH hs rest (pre++[b]) (by simpa using h)
   refine .succ (.succ (Ev.congr (r:=(b::rest).all pB) (by simpa [hp] using ih) fun n=>?_))
   rw[JM,Ch,if_pos (by omega),NP,if_pos rfl,Dl hb,f53]
   simp only[bO1,AL]
   rw[show Jt (b.toNat:Int)=true from hp]
   simp only[AJ,Bool.not_true,Bool.false_eq_true,if_false]
   rw[AG (N:=(bl s).length) hlt (by rw[←Q1];exact hs)]
   simp
theorem nH {s:ByteArray}(hs:s.size≤maxLen) (lo hi:Int):Ev (fun n=>Sp n s lo hi) (nm lo hi s):=by
 have t:∀n,Fk (n+1) s true=some false:=fun n=>by rw[Fk,if_pos rfl]
 cases h:bl s with
 | nil=>
  have hr:nm lo hi s=false:=by unfold nm;rw[h]
  rw[hr]
  exact .succ (.of fun n=>by unfold Sp;rw[if_pos (IY.2 h),t])
 | cons b r=>
  have hr:nm lo hi s=(decide ((b::r).length≤16)&&N4 lo hi (b.toNat:Int)&&(b::r).all pB&&!word s):=by unfold nm;rw[h]
  rw[hr]
  clear hr
  have hne:s≠ByteArray.empty:=fun e=>by rw[IY.1 e]at h;cases h
  have hb:(bl s)[0]?=some b:=by rw[h];rfl
  have z0:(0:Int)=((0:Nat):Int):=rfl
  by_cases hl:(b::r).length≤16
  ·by_cases h1:(b.toNat:Int)<lo
   ·refine .succ (.of fun n=>?_)
    unfold Sp
    rw[if_neg hne,Ch,h,if_neg (by omega),z0,Dl hb,if_pos h1,t]
    simp[N4,show ¬lo≤(b.toNat:Int)by omega]
   ·by_cases h2:hi<(b.toNat:Int)
    ·refine .succ (.of fun n=>?_)
     unfold Sp
     rw[if_neg hne,Ch,h,if_neg (by omega),z0,Dl hb,if_neg h1,Dl hb,if_pos h2,t]
     simp[N4,show ¬(b.toNat:Int)≤hi by omega]
    ·have hin:N4 lo hi (b.toNat:Int)=true:=by simp[N4];omega
     refine Ev.congr (A:=fun n=>bO1 (bR n s) fun b7=>Fk n s b7) (Ev.bO1 (tH s) ?_) fun n=>?_
     ·cases hw:word s with
      | true=>exact .succ (.of fun n=>by rw[t];simp)
      | false=>
       refine .succ ?_
       have h9:Ev (fun n=>JM n s ((0:Nat):Int)) ((bl s).all pB):=fH hs (bl s) [] rfl
       have h8:Ev (fun n=>Fk (n+1) s false) ((bl s).all pB):=h9.congr fun n=>by rw[Fk,if_neg Bool.false_ne_true];rfl
       rw[h]at h8
       rw[decide_eq_true hl,hin,Bool.true_and,Bool.true_and,Bool.not_false,Bool.and_true]
       exact h8
     ·unfold Sp
      rw[if_neg hne,Ch,h,if_neg (by omega),z0,Dl hb,if_neg h1,Dl hb,if_neg h2]
  ·refine .succ (.of fun n=>?_)
   unfold Sp
   rw[if_neg hne,Ch,h,if_pos (by omega),t,decide_eq_false hl]
   rfl
theorem bW {s:ByteArray}(hs:s.size≤maxLen):Ev (fun n=>nG n s) (nm 97 122 s):=Ev.bO1 (nH hs 97 122) .ret
theorem nI {s:ByteArray}(hs:s.size≤maxLen):Ev (fun n=>rP n s) (nm 65 90 s):=Ev.bO1 (nH hs 65 90) .ret
end Go.Proofs.YtjmofeakajdbiaaGreatDoor
set_option linter.unusedVariables false
noncomputable section
namespace Go.Proofs.YtjmofeakajdbiaaGreatDoor
open Go Go.AM
def Il:Nat->BA->Int->Bool->Option (Int)
 | 0,_,_,_=>none
 | n+1,s1,z2,b5=>
  (if b5=true then some (-1:Int)else AJ (IntKind.wrap .i64 (z2 - 5)) fun z6=>N3 s1 fun z7=>AJ (IntKind.wrap .i64 (z6 - z7)) fun z8=>some z8)
def N5 (n:Nat) (s1:BA) (z2:Int):Option (Int):=
 (if z2<(5:Int)then Il n s1 z2 true else N3 s1 fun z3=>AJ (IntKind.wrap .i64 (z2 - 5)) fun z4=>(if z4<z3 then Il n s1 z2 true else Il n s1 z2 false))
noncomputable def zS:BX:=⟨26,Tryz.f26,[.p (.ext 0) 0,.s],[[.z]],⟨.tup [],[[.z]],[]⟩,Int,inferInstance,N5,[⟨5,[0,1,18],[.ext 0],480,[.p (.ext 0) 0,.s,.b],[[.z]],fun n s1 b5 z2=>Il n s1 z2 b5⟩]⟩
noncomputable def iZ:Kz:=sg zS [] Tryz.func26 (by kernel_rfl) (by kernel_rfl) (by kernel_rfl)
mutual
def GK:Nat->LD->Int->Int->Option (Int)
 | 0,_,_,_=>none
 | n+1,l3,z6,z7=>
  AE l3 fun z8=>(if z6<z8 then (if (0:Int)<=z7 then Im n l3 z6 z7 true else Im n l3 z6 z7 false)else Im n l3 z6 z7 false)
def Im:Nat->LD->Int->Int->Bool->Option (Int)
 | 0,_,_,_,_=>none
 | n+1,l3,z6,z7,b9=>
  (if b9=true then Ap l3 z6 fun x10=>Cf x10 fun z11 s12 l13=>bO1 (XF n z11 s12 l13 z7) fun z14=>AJ (IntKind.wrap .i64 (z6+1)) fun z15=>GK n l3 z15 z14 else some z7)
def XF:Nat->Int->BA->LD->Int->Option (Int)
 | 0,_,_,_,_=>none
 | n+1,z1,s2,l3,z4=>
  bO1 (N5 n s2 z4) fun z5=>GK n l3 (0:Int) z5
end
noncomputable def xR:BX:=⟨28,Tryz.f28,[.p (.ext 0) 0,.agg [.y,.str,.q 3]],[[.z]],⟨.tup [],[[.z]],[]⟩,Int,inferInstance,XF,[⟨30,[0,3,4],[.ext 0,.loc 0],192,[.p (.ext 0) 0,.p (.loc 0) 0,.z],[[.z],[.y,.str,.q 3]],fun n z6 z7 _ _ l3=>GK n l3 z6 z7⟩,
 ⟨241,[0,3,4,20],[.ext 0,.loc 0],576,[.p (.ext 0) 0,.p (.loc 0) 0,.z,.b],[[.z],[.y,.str,.q 3]],fun n z6 b9 z7 _ _ l3=>Im n l3 z6 z7 b9⟩]⟩
theorem zU:Cv Tryz.prog inv (OG [xR]):=gr [iZ] ⟨⟨Tryz.func28,by kernel_rfl,by kernel_rfl,by kernel_rfl⟩,trivial⟩
noncomputable def tX:Kz:=⟨xR.c,zU.1⟩
mutual
def GL:Nat->LD->Int->Int->Option (Int)
 | 0,_,_,_=>none
 | n+1,l1,z4,z5=>
  AE l1 fun z6=>(if z4<z6 then (if (0:Int)<=z5 then Ip n l1 z4 z5 true else Ip n l1 z4 z5 false)else Ip n l1 z4 z5 false)
def Ip:Nat->LD->Int->Int->Bool->Option (Int)
 | 0,_,_,_,_=>none
 | n+1,l1,z4,z5,b7=>
  (if b7=true then Ap l1 z4 fun x8=>Bj x8 fun s9=>bO1 (N5 n s9 z5) fun z10=>AJ (IntKind.wrap .i64 (z4+1)) fun z11=>GL n l1 z11 z10 else some z5)
end
def jA (n:Nat) (l1:LD) (z2:Int):Option (Int):=
 AJ (IntKind.wrap .i64 (z2 - 5)) fun z3=>GL n l1 (0:Int) z3
noncomputable def zV:BX:=⟨66,Tryz.f66,[.p (.ext 0) 0,.f 1],[[.z]],⟨.tup [],[[.z]],[]⟩,Int,inferInstance,jA,[⟨14,[0,1,4],[.ext 0],320,[.p (.ext 0) 0,.f 1,.z],[[.z]],fun n l1 z4 z5=>GL n l1 z4 z5⟩,
 ⟨113,[0,1,4,23],[.ext 0],672,[.p (.ext 0) 0,.f 1,.z,.b],[[.z]],fun n l1 z4 b7 z5=>Ip n l1 z4 z5 b7⟩]⟩
noncomputable def xS:Kz:=sg zV [iZ] Tryz.func66 (by kernel_rfl) (by kernel_rfl) (by kernel_rfl)
def nJ (n:Nat) (s1:BA) (l2:LD) (z3:Int):Option (Int):=
 bO1 (N5 n s1 z3) fun z4=>bO1 (jA n l2 z4) fun z5=>some z5
noncomputable def zW:BX:=⟨67,Tryz.f67,[.p (.ext 0) 0,.agg [.str,.f 1]],[[.z]],⟨.tup [],[[.z]],[]⟩,Int,inferInstance,nJ,[]⟩
noncomputable def xT:Kz:=sg zW [iZ,xS] Tryz.func67 (by kernel_rfl) (by kernel_rfl) (by kernel_rfl)
mutual
def GM:Nat->LD->Int->Int->Option (Int)
 | 0,_,_,_=>none
 | n+1,l7,z13,z14=>
  AE l7 fun z15=>(if z13<z15 then (if (0:Int)<=z14 then Iq n l7 z13 z14 true else Iq n l7 z13 z14 false)else Iq n l7 z13 z14 false)
def Iq:Nat->LD->Int->Int->Bool->Option (Int)
 | 0,_,_,_,_=>none
 | n+1,l7,z13,z14,b16=>
  (if b16=true then Ap l7 z13 fun x17=>BD x17 fun z18 z19 s20 s21 s22 l23 l24 z25=>bO1 (Xe n z18 z19 s20 s21 s22 l23 l24 z25 z14) fun z26=>AJ (IntKind.wrap .i64 (z13+1)) fun z27=>GM n l7 z27 z26 else some z14)
def Xe:Nat->Int->Int->BA->BA->BA->LD->LD->Int->Int->Option (Int)
 | 0,_,_,_,_,_,_,_,_,_=>none
 | n+1,z1,z2,s3,s4,s5,l6,l7,z8,z9=>
  bO1 (N5 n s3 z9) fun z10=>bO1 (N5 n s4 z10) fun z11=>bO1 (nJ n s5 l6 z11) fun z12=>GM n l7 (0:Int) z12
end
noncomputable def xU:BX:=⟨30,Tryz.f30,[.p (.ext 0) 0,.agg [.y,.z,.str,.str,.str,.f 1,.q 8,.z]],[[.z]],⟨.tup [],[[.z]],[]⟩,Int,inferInstance,Xe,[⟨126,[0,3,4],[.ext 0,.loc 0],448,[.p (.ext 0) 0,.p (.loc 0) 0,.z],[[.z],[.y,.z,.str,.str,.str,.f 1,.q 8,.z]],fun n z13 z14 _ _ _ _ _ _ l7 _=>GM n l7 z13 z14⟩,
 ⟨1009,[0,3,4,28],[.ext 0,.loc 0],832,[.p (.ext 0) 0,.p (.loc 0) 0,.z,.b],[[.z],[.y,.z,.str,.str,.str,.f 1,.q 8,.z]],fun n z13 b16 z14 _ _ _ _ _ _ l7 _=>Iq n l7 z13 z14 b16⟩]⟩
theorem zX:Cv Tryz.prog inv (OG [xU]):=gr [iZ,xT] ⟨⟨Tryz.func30,by kernel_rfl,by kernel_rfl,by kernel_rfl⟩,trivial⟩
noncomputable def xV:Kz:=⟨xU.c,zX.1⟩
mutual
def ZF:Nat->Int->BA->LD->Int->Option (Bool×Int)
 | 0,_,_,_,_=>none
 | n+1,z1,s2,l3,z4=>
  AJ (IntKind.wrap .i64 (z4 - 1)) fun z5=>bO1 (PM n z1 s2 l3 z5) fun b6=>some (b6,z4)
def Fm:Nat->LD->Int->Int->Int->Option (Bool×Int)
 | 0,_,_,_,_=>none
 | n+1,l1,z2,z4,z5=>
  AE l1 fun z6=>(if z4<z6 then (if z4<z2 then FG n l1 z2 z4 z5 true else FG n l1 z2 z4 z5 false)else FG n l1 z2 z4 z5 false)
def FG:Nat->LD->Int->Int->Int->Bool->Option (Bool×Int)
 | 0,_,_,_,_,_=>none
 | n+1,l1,z2,z4,z5,b7=>
  (if b7=true then Ap l1 z4 fun x8=>Cf x8 fun z9 s10 l11=>bO2 (ZF n z9 s10 l11 z5) fun b12 z13=>AL (!b12) fun b14=>(if b14=true then some (false,z13)else AJ (IntKind.wrap .i64 (z4+1)) fun z15=>Fm n l1 z2 z15 z13)else AE l1 fun z16=>(if z16<=z2 then some (true,z5)else some (false,z5)))
def ZG:Nat->LD->Int->Int->Option (Bool×Int)
 | 0,_,_,_=>none
 | n+1,l1,z2,z3=>
  Fm n l1 z2 (0:Int) z3
def Ju:Nat->Int->BA->LD->Int->Bool->Option (Bool)
 | 0,_,_,_,_,_=>none
 | n+1,z1,s2,l3,z4,b5=>
  (if z1=(1:Int)then Jv n z1 s2 l3 z4 b5 true else Jv n z1 s2 l3 z4 b5 false)
def Jv:Nat->Int->BA->LD->Int->Bool->Bool->Option (Bool)
 | 0,_,_,_,_,_,_=>none
 | n+1,z1,s2,l3,z4,b5,b6=>
  (if b6=true then HL n z1 s2 l3 z4 b5 true else (if z1=(2:Int)then Jw n z1 s2 l3 z4 b5 true else Jw n z1 s2 l3 z4 b5 false))
def Jw:Nat->Int->BA->LD->Int->Bool->Bool->Option (Bool)
 | 0,_,_,_,_,_,_=>none
 | n+1,z1,s2,l3,z4,b5,b7=>
  (if b7=true then HL n z1 s2 l3 z4 b5 true else (if z1=(3:Int)then Jx n z1 s2 l3 z4 b5 true else Jx n z1 s2 l3 z4 b5 false))
def Jx:Nat->Int->BA->LD->Int->Bool->Bool->Option (Bool)
 | 0,_,_,_,_,_,_=>none
 | n+1,z1,s2,l3,z4,b5,b8=>
  (if b8=true then HL n z1 s2 l3 z4 b5 true else (if z1=(10:Int)then HL n z1 s2 l3 z4 b5 true else HL n z1 s2 l3 z4 b5 false))
def HL:Nat->Int->BA->LD->Int->Bool->Bool->Option (Bool)
 | 0,_,_,_,_,_,_=>none
 | n+1,z1,s2,l3,z4,b5,b9=>
  (if b9=true then Ir n z1 l3 z4 (0:Int) b5 else (if z1=(4:Int)then Jy n z1 s2 l3 z4 b5 true else Jy n z1 s2 l3 z4 b5 false))
def Jy:Nat->Int->BA->LD->Int->Bool->Bool->Option (Bool)
 | 0,_,_,_,_,_,_=>none
 | n+1,z1,s2,l3,z4,b5,b10=>
  (if b10=true then bO1 (XE n s2) fun b11=>Ir n z1 l3 z4 (0:Int) b11 else Ir n z1 l3 z4 (1:Int) b5)
def Ir:Nat->Int->LD->Int->Int->Bool->Option (Bool)
 | 0,_,_,_,_,_=>none
 | n+1,z1,l3,z4,z12,b13=>
  (if (0:Int)<z4 then (if (1:Int)<=z1 then (if z1<=(14:Int)then (if b13=true then AE l3 fun z14=>(if z14=z12 then bO2 (ZG n l3 (1:Int) z4) fun b15 z16=>some b15 else some false)else some false)else some false)else some false)else some false)
def PM:Nat->Int->BA->LD->Int->Option (Bool)
 | 0,_,_,_,_=>none
 | n+1,z1,s2,l3,z4=>
  (if s2=ByteArray.empty then Ju n z1 s2 l3 z4 true else Ju n z1 s2 l3 z4 false)
end
theorem tZ (n:Nat):(∀⦃z1 s2 l3 z4 r1 r2⦄,ZF n z1 s2 l3 z4=some (r1,r2)->
    Ah Tryz.prog inv 101 [.d (.agg [.int .u8 z1,.str s2,.list true 3 l3]),.c (.ptr (.ext 0) 0)] [.cells [.d (.int .i64 z4)]] (.v (.d (.bool r1))) [.cells [.d (.int .i64 r2)]] [])/\
    (∀⦃l1 z2 z3 r1 r2⦄,ZG n l1 z2 z3=some (r1,r2)->
    Ah Tryz.prog inv 100 [.d (.list true 3 l1),.d (.int .i64 z2),.c (.fn 101 [.ext 0])] [.cells [.d (.int .i64 z3)]] (.v (.d (.bool r1))) [.cells [.d (.int .i64 r2)]] [])/\
    (∀⦃z1 s2 l3 z4 r1⦄,PM n z1 s2 l3 z4=some r1->
    Ah Tryz.prog inv 55 [.d (.agg [.int .u8 z1,.str s2,.list true 3 l3]),.d (.int .i64 z4)] [] (.v (.d (.bool r1))) [] []):=by
 induction n using Nat.strongRecOn with | _ n ih=>
 obtain _ | n:=n
 ·refine⟨?_,?_,?_⟩
  ·intro z1 s2 l3 z4 r1 r2 h
   cases (show (none:Option _)=some _ from h)
  ·intro l1 z2 z3 r1 r2 h
   cases (show (none:Option _)=some _ from h)
  intro z1 s2 l3 z4 r1 h
  cases (show (none:Option _)=some _ from h)
 refine⟨?_,?_,?_⟩
 ·intro z1 s2 l3 z4 r1 r2 h
  rw[ZF]at h
  refine Ah.of BI Ao Fi Tryz.func101 rfl (by kernel_rfl) rfl rfl rfl (fun M hM hI=>?_)
  try cbv
  refine AB ?_
  try cbv
  refine AB ?_
  try cbv
  replace h:=Ac h
  obtain⟨z5,hz,h⟩:=h
  refine⟨z5,hz,?_⟩
  clear hz
  try cbv
  replace h:=AU h
  obtain⟨b6,hr,h⟩:=h
  refine AZ rfl rfl ?_
  try cbv
  refine AQ hM hI ((ih _ (by omega)).2.2 hr) rfl ?_
  clear hr
  try cbv
  obtain⟨rfl,rfl⟩:=aV h
  refine AR ?_
  try cbv
  exact⟨[],rfl,rfl,⟨rfl,trivial⟩,trivial,trivial⟩
 ·intro l1 z2 z3 r1 r2 h
  rw[ZG]at h
  refine Ah.of BI Ao Fi Tryz.func100 rfl (by kernel_rfl) rfl rfl rfl (fun M hM hI=>?_)
  try cbv
  refine AB ?_
  try cbv
  refine AB ?_
  try cbv
  refine AB ?_
  try cbv
  refine Cs (T:=Nat×Int×Int) [0,1,2,6,7] [.ext 0] 64 (fun t=>⟨[sT 0 3 l1,sI 1 z2,(2,.v (.c (.fn 101 [.ext 0]))),sB 6 false,sI 7 t.2.1],[(.ext 0,.cells [.d (.int .i64 t.2.2)])],64⟩)
    (fun t=>t.1<=n/\Fm t.1 l1 z2 t.2.1 t.2.2=some (r1,r2)) (fun t=>t.1) (n,((0:Int),z3)) ⟨Nat.le_refl _,h⟩ (by cbv) ?_
  clear h
  rintro⟨m1,z4,z5⟩ ⟨hm1,h⟩
  replace hm1:m1<=n:=hm1
  obtain _ | m1:=m1
  ·replace h:Fm 0 l1 z2 z4 z5=some (r1,r2):=h
   rw[Fm]at h
   cases h
  replace h:Fm (m1+1) l1 z2 z4 z5=some (r1,r2):=h
  rw[Fm]at h
  try cbv
  refine AB ?_
  try cbv
  refine Cu (T:=Nat×Bool) (fun t=>⟨[sT 0 3 l1,sI 1 z2,(2,.v (.c (.fn 101 [.ext 0]))),sB 6 false,sI 7 z4,sB 16 t.2],[(.ext 0,.cells [.d (.int .i64 z5)])],352⟩) (fun t=>t.1<=m1/\FG t.1 l1 z2 z4 z5 t.2=some (r1,r2)) ?_ ?_
  ·try cbv
   replace h:=BL M h
   obtain⟨z6,hz,h⟩:=h
   refine⟨z6,hz,?_⟩
   clear hz
   try cbv
   refine Bu (fun e=>?_) (fun e=>?_)
   ·replace h:=Aj e h
    clear e
    try cbv
    refine Bu (fun e=>?_) (fun e=>?_)
    ·replace h:=Aj e h
     clear e
     try cbv
     exact AA (m1,true) [0,1,2,6,7,16] [.ext 0] 352 ⟨by omega,h⟩ (by cbv)
    replace h:=Ak (Int.not_lt.2 e) h
    clear e
    try cbv
    exact AA (m1,false) [0,1,2,6,7,16] [.ext 0] 352 ⟨by omega,h⟩ (by cbv)
   replace h:=Ak (Int.not_lt.2 e) h
   clear e
   try cbv
   exact AA (m1,false) [0,1,2,6,7,16] [.ext 0] 352 ⟨by omega,h⟩ (by cbv)
  clear h
  rintro⟨m2,b7⟩ ⟨hm2,h⟩
  replace hm2:m2<=m1:=hm2
  obtain _ | m2:=m2
  ·replace h:FG 0 l1 z2 z4 z5 b7=some (r1,r2):=h
   rw[FG]at h
   cases h
  replace h:FG (m2+1) l1 z2 z4 z5 b7=some (r1,r2):=h
  rw[FG]at h
  try cbv
  cases b7
  ·replace h:=Bp h
   try cbv
   refine AB ?_
   try cbv
   replace h:=BL M h
   obtain⟨z16,hz,h⟩:=h
   refine⟨z16,hz,?_⟩
   clear hz
   try cbv
   refine Jk (fun e=>?_) (fun e=>?_)
   ·replace h:=Aj e h
    clear e
    try cbv
    obtain⟨rfl,rfl⟩:=aV h
    refine AR ?_
    try cbv
    exact⟨[],rfl,rfl,⟨rfl,trivial⟩,trivial,trivial⟩
   replace h:=Ak (Int.not_le.2 e) h
   clear e
   try cbv
   obtain⟨rfl,rfl⟩:=aV h
   refine AR ?_
   try cbv
   exact⟨[],rfl,rfl,⟨rfl,trivial⟩,trivial,trivial⟩
  replace h:=Bo h
  try cbv
  refine AB ?_
  try cbv
  refine AB ?_
  try cbv
  replace h:=BT h
  obtain⟨x8,⟨hx0,hx⟩,h⟩:=h
  refine⟨x8,hx0,hx,?_⟩
  clear hx0 hx
  replace h:=JF h
  obtain⟨z9,s10,l11,rfl,h⟩:=h
  try cbv
  replace h:=GY h
  obtain⟨b12,z13,hr,h⟩:=h
  refine AZ rfl rfl ?_
  try cbv
  refine Al hM hI [.ext 0] ((ih _ (by omega)).1 hr) rfl (by simp) ⟨rfl,trivial⟩ ⟨trivial,trivial⟩ (by simp) ?_
  clear hr
  try cbv
  replace h:=CS h
  obtain⟨b14,hz,h⟩:=h
  refine⟨b14,DN hz,?_⟩
  clear hz
  try cbv
  cases b14
  ·replace h:=Bp h
   try cbv
   replace h:=Ac h
   obtain⟨z15,hz,h⟩:=h
   refine⟨z15,hz,?_⟩
   clear hz
   try cbv
   exact BP (m2,(z15,z13)) [0,1,2,6,7] [.ext 0] 64 ⟨by omega,h⟩ (Nat.lt_succ_of_le (by omega)) (by cbv)
  replace h:=Bo h
  try cbv
  refine AB ?_
  try cbv
  obtain⟨rfl,rfl⟩:=aV h
  refine AR ?_
  try cbv
  exact⟨[],rfl,rfl,⟨rfl,trivial⟩,trivial,trivial⟩
 intro z1 s2 l3 z4 r1 h
 rw[PM]at h
 refine Ah.of BI Ao Fi Tryz.func55 rfl (by kernel_rfl) rfl rfl rfl (fun M hM hI=>?_)
 try cbv
 refine AB ?_
 try cbv
 refine Cu (T:=Nat×Bool) (fun t=>⟨[sL 2 0,sL 3 32,sB 4 false,sI 5 1,sB 6 t.2],[(.loc 0,.cells [.d (.int .u8 z1),.d (.str s2),.d (.list true 3 l3)]),(.loc 32,.cells [.d (.int .i64 z4)])],256⟩) (fun t=>t.1<=n/\Ju t.1 z1 s2 l3 z4 t.2=some r1) ?_ ?_
 ·try cbv
  refine gV (fun e=>?_) (fun e=>?_)
  ·replace h:=Aj (FB.1 e) h
   clear e
   try cbv
   refine drawn ?_ ?_
   ·show _=true
    kernel_rfl
   try cbv
   exact AA (n,true) [2,3,4,5,6] [.loc 0,.loc 32] 256 ⟨by omega,h⟩ (by cbv)
  replace h:=Ak (YJ.1 e) h
  clear e
  try cbv
  refine drawn ?_ ?_
  ·show _=true
   kernel_rfl
  try cbv
  exact AA (n,false) [2,3,4,5,6] [.loc 0,.loc 32] 256 ⟨by omega,h⟩ (by cbv)
 clear h
 rintro⟨m1,b5⟩ ⟨hm1,h⟩
 replace hm1:m1<=n:=hm1
 obtain _ | m1:=m1
 ·replace h:Ju 0 z1 s2 l3 z4 b5=some r1:=h
  rw[Ju]at h
  cases h
 replace h:Ju (m1+1) z1 s2 l3 z4 b5=some r1:=h
 rw[Ju]at h
 try cbv
 refine Cu (T:=Nat×Int×Bool) (fun t=>⟨[sL 2 0,sL 3 32,sB 4 false,sI 5 t.2.1,sB 6 t.2.2],[(.loc 0,.cells [.d (.int .u8 z1),.d (.str s2),.d (.list true 3 l3)]),(.loc 32,.cells [.d (.int .i64 z4)])],800⟩) (fun t=>t.1<=m1/\Ir t.1 z1 l3 z4 t.2.1 t.2.2=some r1) ?_ ?_
 rotate_left
 ·clear h
  rintro⟨m7,z12,b13⟩ ⟨hm7,h⟩
  replace hm7:m7<=m1:=hm7
  obtain _ | m7:=m7
  ·replace h:Ir 0 z1 l3 z4 z12 b13=some r1:=h
   rw[Ir]at h
   cases h
  replace h:Ir (m7+1) z1 l3 z4 z12 b13=some r1:=h
  rw[Ir]at h
  try cbv
  refine AB ?_
  try cbv
  refine Bu (fun e=>?_) (fun e=>?_)
  rotate_left
  ·replace h:=Ak (Int.not_lt.2 e) h
   clear e
   try cbv
   obtain rfl:=Option.some.inj h
   refine AR ?_
   try cbv
   exact⟨[],by trivial⟩
  replace h:=Aj e h
  clear e
  try cbv
  refine Jk (fun e=>?_) (fun e=>?_)
  rotate_left
  ·replace h:=Ak (Int.not_le.2 e) h
   clear e
   try cbv
   obtain rfl:=Option.some.inj h
   refine AR ?_
   try cbv
   exact⟨[],by trivial⟩
  replace h:=Aj e h
  clear e
  try cbv
  refine Jk (fun e=>?_) (fun e=>?_)
  rotate_left
  ·replace h:=Ak (Int.not_le.2 e) h
   clear e
   try cbv
   obtain rfl:=Option.some.inj h
   refine AR ?_
   try cbv
   exact⟨[],by trivial⟩
  replace h:=Aj e h
  clear e
  try cbv
  cases b13
  ·replace h:=Bp h
   try cbv
   obtain rfl:=Option.some.inj h
   refine AR ?_
   try cbv
   exact⟨[],by trivial⟩
  replace h:=Bo h
  try cbv
  replace h:=BL M h
  obtain⟨z14,hz,h⟩:=h
  refine⟨z14,hz,?_⟩
  clear hz
  try cbv
  refine Av (fun e=>?_) (fun e=>?_)
  ·replace h:=Aj e h
   clear e
   try cbv
   replace h:=GY h
   obtain⟨b15,z16,hr,h⟩:=h
   refine AZ rfl rfl ?_
   try cbv
   refine Al hM hI [.loc 32] ((ih _ (by omega)).2.1 hr) rfl (by simp) ⟨rfl,trivial⟩ ⟨trivial,trivial⟩ (by simp) ?_
   clear hr
   try cbv
   obtain rfl:=Option.some.inj h
   refine AR ?_
   try cbv
   exact⟨[],by trivial⟩
  replace h:=Ak e h
  clear e
  try cbv
  obtain rfl:=Option.some.inj h
  refine AR ?_
  try cbv
  exact⟨[],by trivial⟩
 try cbv
 refine AB ?_
 try cbv
 refine Cu (T:=Nat×Bool) (fun t=>⟨[sL 2 0,sL 3 32,sB 4 false,sI 5 1,sB 6 b5,sU 11 z1,sB 12 t.2],[(.loc 0,.cells [.d (.int .u8 z1),.d (.str s2),.d (.list true 3 l3)]),(.loc 32,.cells [.d (.int .i64 z4)])],576⟩) (fun t=>t.1<=m1/\HL t.1 z1 s2 l3 z4 b5 t.2=some r1) ?_ ?_
 rotate_left
 ·clear h
  rintro⟨m5,b9⟩ ⟨hm5,h⟩
  replace hm5:m5<=m1:=hm5
  obtain _ | m5:=m5
  ·replace h:HL 0 z1 s2 l3 z4 b5 b9=some r1:=h
   rw[HL]at h
   cases h
  replace h:HL (m5+1) z1 s2 l3 z4 b5 b9=some r1:=h
  rw[HL]at h
  try cbv
  cases b9
  rotate_left
  ·replace h:=Bo h
   try cbv
   exact AA (m5,((0:Int),b5)) [2,3,4,5,6] [.loc 0,.loc 32] 800 ⟨by omega,h⟩ (by cbv)
  replace h:=Bp h
  try cbv
  refine Cu (T:=Nat×Bool) (fun t=>⟨[sL 2 0,sL 3 32,sB 4 false,sI 5 1,sB 6 b5,sB 17 t.2],[(.loc 0,.cells [.d (.int .u8 z1),.d (.str s2),.d (.list true 3 l3)]),(.loc 32,.cells [.d (.int .i64 z4)])],640⟩) (fun t=>t.1<=m5/\Jy t.1 z1 s2 l3 z4 b5 t.2=some r1) ?_ ?_
  ·try cbv
   refine Av (fun e=>?_) (fun e=>?_)
   ·replace h:=Aj e h
    clear e
    try cbv
    exact AA (m5,true) [2,3,4,5,6,17] [.loc 0,.loc 32] 640 ⟨by omega,h⟩ (by cbv)
   replace h:=Ak e h
   clear e
   try cbv
   exact AA (m5,false) [2,3,4,5,6,17] [.loc 0,.loc 32] 640 ⟨by omega,h⟩ (by cbv)
  clear h
  rintro⟨m6,b10⟩ ⟨hm6,h⟩
  replace hm6:m6<=m5:=hm6
  obtain _ | m6:=m6
  ·replace h:Jy 0 z1 s2 l3 z4 b5 b10=some r1:=h
   rw[Jy]at h
   cases h
  replace h:Jy (m6+1) z1 s2 l3 z4 b5 b10=some r1:=h
  rw[Jy]at h
  try cbv
  cases b10
  ·replace h:=Bp h
   try cbv
   exact AA (m6,((1:Int),b5)) [2,3,4,5,6] [.loc 0,.loc 32] 800 ⟨by omega,h⟩ (by cbv)
  replace h:=Bo h
  try cbv
  replace h:=AU h
  obtain⟨b11,hr,h⟩:=h
  refine AZ rfl rfl ?_
  try cbv
  refine AQ hM hI (tT _ hr) rfl ?_
  clear hr
  try cbv
  exact AA (m6,((0:Int),b11)) [2,3,4,5,6] [.loc 0,.loc 32] 800 ⟨by omega,h⟩ (by cbv)
 try cbv
 refine Cu (T:=Nat×Bool) (fun t=>⟨[sL 2 0,sL 3 32,sB 4 false,sI 5 1,sB 6 b5,sU 11 z1,sB 12 t.2],[(.loc 0,.cells [.d (.int .u8 z1),.d (.str s2),.d (.list true 3 l3)]),(.loc 32,.cells [.d (.int .i64 z4)])],384⟩) (fun t=>t.1<=m1/\Jv t.1 z1 s2 l3 z4 b5 t.2=some r1) ?_ ?_
 ·try cbv
  refine Av (fun e=>?_) (fun e=>?_)
  ·replace h:=Aj e h
   clear e
   try cbv
   exact AA (m1,true) [2,3,4,5,6,11,12] [.loc 0,.loc 32] 384 ⟨by omega,h⟩ (by cbv)
  replace h:=Ak e h
  clear e
  try cbv
  exact AA (m1,false) [2,3,4,5,6,11,12] [.loc 0,.loc 32] 384 ⟨by omega,h⟩ (by cbv)
 clear h
 rintro⟨m2,b6⟩ ⟨hm2,h⟩
 replace hm2:m2<=m1:=hm2
 obtain _ | m2:=m2
 ·replace h:Jv 0 z1 s2 l3 z4 b5 b6=some r1:=h
  rw[Jv]at h
  cases h
 replace h:Jv (m2+1) z1 s2 l3 z4 b5 b6=some r1:=h
 rw[Jv]at h
 try cbv
 cases b6
 rotate_left
 ·replace h:=Bo h
  try cbv
  exact AA (m2,true) [2,3,4,5,6,11,12] [.loc 0,.loc 32] 576 ⟨by omega,h⟩ (by cbv)
 replace h:=Bp h
 try cbv
 refine Cu (T:=Nat×Bool) (fun t=>⟨[sL 2 0,sL 3 32,sB 4 false,sI 5 1,sB 6 b5,sU 11 z1,sB 12 t.2],[(.loc 0,.cells [.d (.int .u8 z1),.d (.str s2),.d (.list true 3 l3)]),(.loc 32,.cells [.d (.int .i64 z4)])],448⟩) (fun t=>t.1<=m2/\Jw t.1 z1 s2 l3 z4 b5 t.2=some r1) ?_ ?_
 ·try cbv
  refine Av (fun e=>?_) (fun e=>?_)
  ·replace h:=Aj e h
   clear e
   try cbv
   exact AA (m2,true) [2,3,4,5,6,11,12] [.loc 0,.loc 32] 448 ⟨by omega,h⟩ (by cbv)
  replace h:=Ak e h
  clear e
  try cbv
  exact AA (m2,false) [2,3,4,5,6,11,12] [.loc 0,.loc 32] 448 ⟨by omega,h⟩ (by cbv)
 clear h
 rintro⟨m3,b7⟩ ⟨hm3,h⟩
 replace hm3:m3<=m2:=hm3
 obtain _ | m3:=m3
 ·replace h:Jw 0 z1 s2 l3 z4 b5 b7=some r1:=h
  rw[Jw]at h
  cases h
 replace h:Jw (m3+1) z1 s2 l3 z4 b5 b7=some r1:=h
 rw[Jw]at h
 try cbv
 cases b7
 rotate_left
 ·replace h:=Bo h
  try cbv
  exact AA (m3,true) [2,3,4,5,6,11,12] [.loc 0,.loc 32] 576 ⟨by omega,h⟩ (by cbv)
 replace h:=Bp h
 try cbv
 refine Cu (T:=Nat×Bool) (fun t=>⟨[sL 2 0,sL 3 32,sB 4 false,sI 5 1,sB 6 b5,sU 11 z1,sB 12 t.2],[(.loc 0,.cells [.d (.int .u8 z1),.d (.str s2),.d (.list true 3 l3)]),(.loc 32,.cells [.d (.int .i64 z4)])],512⟩) (fun t=>t.1<=m3/\Jx t.1 z1 s2 l3 z4 b5 t.2=some r1) ?_ ?_
 ·try cbv
  refine Av (fun e=>?_) (fun e=>?_)
  ·replace h:=Aj e h
   clear e
   try cbv
   exact AA (m3,true) [2,3,4,5,6,11,12] [.loc 0,.loc 32] 512 ⟨by omega,h⟩ (by cbv)
  replace h:=Ak e h
  clear e
  try cbv
  exact AA (m3,false) [2,3,4,5,6,11,12] [.loc 0,.loc 32] 512 ⟨by omega,h⟩ (by cbv)
 clear h
 rintro⟨m4,b8⟩ ⟨hm4,h⟩
 replace hm4:m4<=m3:=hm4
 obtain _ | m4:=m4
 ·replace h:Jx 0 z1 s2 l3 z4 b5 b8=some r1:=h
  rw[Jx]at h
  cases h
 replace h:Jx (m4+1) z1 s2 l3 z4 b5 b8=some r1:=h
 rw[Jx]at h
 try cbv
 cases b8
 ·replace h:=Bp h
  try cbv
  refine Av (fun e=>?_) (fun e=>?_)
  ·replace h:=Aj e h
   clear e
   try cbv
   exact AA (m4,true) [2,3,4,5,6,11,12] [.loc 0,.loc 32] 576 ⟨by omega,h⟩ (by cbv)
  replace h:=Ak e h
  clear e
  try cbv
  exact AA (m4,false) [2,3,4,5,6,11,12] [.loc 0,.loc 32] 576 ⟨by omega,h⟩ (by cbv)
 replace h:=Bo h
 try cbv
 exact AA (m4,true) [2,3,4,5,6,11,12] [.loc 0,.loc 32] 576 ⟨by omega,h⟩ (by cbv)
theorem lQ (n:Nat):∀⦃z1 s2 l3 z4 r1⦄,PM n z1 s2 l3 z4=some r1->
  Ah Tryz.prog inv 55 [.d (.agg [.int .u8 z1,.str s2,.list true 3 l3]),.d (.int .i64 z4)] [] (.v (.d (.bool r1))) [] []:=(tZ n).2.2
noncomputable def zY:BQ:=⟨55,[.agg [.y,.str,.q 3],.z],[],[⟨.one (.b),[],[]⟩],Bool,inferInstance,PM⟩
noncomputable def xW:Kz:=⟨zY,fun n=>Cm fun z1 s2 l3 z4 p h w1 w2 w4 w3 l1 l2 e1 e2 e5 e3 xs e4=>by cases e1;cases e2;cases e4;cases e5;cases e3;exact lQ n h⟩
def fI (n:Nat) (z1:Int) (s2:BA) (l3:LD):Option (Bool):=
 bO1 (PM n z1 s2 l3 (40:Int)) fun b4=>some b4
noncomputable def zZ:BX:=⟨21,Tryz.f21,[.agg [.y,.str,.q 3]],[],⟨.one (.b),[],[]⟩,Bool,inferInstance,fI,[]⟩
noncomputable def k21:Kz:=sg zZ [xW] Tryz.func21 (by kernel_rfl) (by kernel_rfl) (by kernel_rfl)
theorem uA (n:Nat):∀⦃z1 s2 l3 r1⦄,fI n z1 s2 l3=some r1->
  Ah Tryz.prog inv 21 [.d (.agg [.int .u8 z1,.str s2,.list true 3 l3])] [] (.v (.d (.bool r1))) [] []:=fun z1 s2 l3 r1 h=>k21.ok n [.I z1,.S s2,.L l3] _ h _ _ _ _ _ _ rfl rfl rfl rfl _ rfl
end Go.Proofs.YtjmofeakajdbiaaGreatDoor
end
set_option linter.unusedVariables false
noncomputable section
namespace Go.Proofs.YtjmofeakajdbiaaGreatDoor
open Go Go.AM
theorem nK {l:List D}(h:l.length=1):∃x0,l=[x0]:=by
 match l,h with
 | [x0],_=>exact⟨x0,rfl⟩
theorem fJ {l:List D}(h:l.length=3):∃x0 x1 x2,l=[x0,x1,x2]:=by
 match l,h with
 | [x0,x1,x2],_=>exact⟨x0,x1,x2,rfl⟩
theorem nL {l:List D}(h:l.length=4):∃x0 x1 x2 x3,l=[x0,x1,x2,x3]:=by
 match l,h with
 | [x0,x1,x2,x3],_=>exact⟨x0,x1,x2,x3,rfl⟩
theorem nM {l:List D}(h:l.length=8):∃x0 x1 x2 x3 x4 x5 x6 x7,l=[x0,x1,x2,x3,x4,x5,x6,x7]:=by
 match l,h with
 | [x0,x1,x2,x3,x4,x5,x6,x7],_=>exact⟨x0,x1,x2,x3,x4,x5,x6,x7,rfl⟩
theorem jB {l:List D}(h:l.length=15):∃x0 x1 x2 x3 x4 x5 x6 x7 x8 x9 x10 x11 x12 x13 x14,l=[x0,x1,x2,x3,x4,x5,x6,x7,x8,x9,x10,x11,x12,x13,x14]:=by
 match l,h with
 | [x0,x1,x2,x3,x4,x5,x6,x7,x8,x9,x10,x11,x12,x13,x14],_=>exact⟨x0,x1,x2,x3,x4,x5,x6,x7,x8,x9,x10,x11,x12,x13,x14,rfl⟩
theorem jC {l:List D}(h:l.length=16):∃x0 x1 x2 x3 x4 x5 x6 x7 x8 x9 x10 x11 x12 x13 x14 x15,l=[x0,x1,x2,x3,x4,x5,x6,x7,x8,x9,x10,x11,x12,x13,x14,x15]:=by
 match l,h with
 | [x0,x1,x2,x3,x4,x5,x6,x7,x8,x9,x10,x11,x12,x13,x14,x15],_=>exact⟨x0,x1,x2,x3,x4,x5,x6,x7,x8,x9,x10,x11,x12,x13,x14,x15,rfl⟩
theorem Z7 {x:D}(h:DF AI 9 x):∃a0,x= .str a0∧a0.size≤maxLen:=by
 have hs:=h.rL (y:=BC AI 9) (by kernel_rfl) rfl
 have hl:=hs.flat 9 9 [9] [x] (by kernel_rfl)
 obtain⟨a0,rfl,w0⟩:=(hl.2 0 x 9 rfl rfl).HZ (x:=BC AI 9) (by kernel_rfl) rfl
 exact⟨_,rfl,w0⟩
theorem nN {x:D}(h:DF AI 24 x):∃a0,x= .agg [.list true 16 a0]∧AD AI 45 a0:=by
 obtain⟨cs,rfl,hs⟩:=h.agg (y:=BC AI 24) (by kernel_rfl) rfl
 have hl:=hs.flat 9 24 [22] cs (by kernel_rfl)
 obtain⟨b0,rfl⟩:=nK hl.1
 obtain⟨a0,e0,w0⟩:=(hl.2 0 b0 22 rfl rfl).Dv (x:=BC AI 22) (y:=BC AI 45) (by kernel_rfl) rfl (by kernel_rfl)
 obtain rfl:b0= .list true 16 a0:=e0
 exact⟨_,rfl,w0⟩
theorem U4 {x:D}(h:DF AI 33 x):∃a0 a1 a2,x= .agg [.int .u8 a0,.str a1,.list true 3 a2]∧(Lit.int .u8 a0).wf=true∧a1.size≤maxLen∧AD AI 33 a2:=by
 obtain⟨cs,rfl,hs⟩:=h.agg (y:=BC AI 33) (by kernel_rfl) rfl
 have hl:=hs.flat 9 33 [5,9,31] cs (by kernel_rfl)
 obtain⟨b0,b1,b2,rfl⟩:=fJ hl.1
 obtain⟨a0,rfl,w0⟩:=(hl.2 0 b0 5 rfl rfl).JT (x:=BC AI 5) (by kernel_rfl) rfl
 obtain⟨a1,rfl,w1⟩:=(hl.2 1 b1 9 rfl rfl).HZ (x:=BC AI 9) (by kernel_rfl) rfl
 obtain⟨a2,e2,w2⟩:=(hl.2 2 b2 31 rfl rfl).Dv (x:=BC AI 31) (y:=BC AI 33) (by kernel_rfl) rfl (by kernel_rfl)
 obtain rfl:b2= .list true 3 a2:=e2
 exact⟨_,_,_,rfl,w0,w1,w2⟩
theorem Jz {x:D}(h:DF AI 39 x):∃a0 a1 a2 a3 a4 a5 a6 a7,x= .agg [.int .u8 a0,.int .i64 a1,.str a2,.str a3,.str a4,.list false 1 a5,.list true 8 a6,.int .i64 a7]∧(Lit.int .u8 a0).wf=true∧(Lit.int .i64 a1).wf=true∧a2.size≤maxLen∧a3.size≤maxLen∧a4.size≤maxLen∧AD AI 9 a5∧AD AI 39 a6∧(Lit.int .i64 a7).wf=true:=by
 obtain⟨cs,rfl,hs⟩:=h.agg (y:=BC AI 39) (by kernel_rfl) rfl
 have hl:=hs.flat 9 39 [5,2,9,9,9,34,37,3] cs (by kernel_rfl)
 obtain⟨b0,b1,b2,b3,b4,b5,b6,b7,rfl⟩:=nM hl.1
 obtain⟨a0,rfl,w0⟩:=(hl.2 0 b0 5 rfl rfl).JT (x:=BC AI 5) (by kernel_rfl) rfl
 obtain⟨a1,rfl,w1⟩:=(hl.2 1 b1 2 rfl rfl).JT (x:=BC AI 2) (by kernel_rfl) rfl
 obtain⟨a2,rfl,w2⟩:=(hl.2 2 b2 9 rfl rfl).HZ (x:=BC AI 9) (by kernel_rfl) rfl
 obtain⟨a3,rfl,w3⟩:=(hl.2 3 b3 9 rfl rfl).HZ (x:=BC AI 9) (by kernel_rfl) rfl
 obtain⟨a4,rfl,w4⟩:=(hl.2 4 b4 9 rfl rfl).HZ (x:=BC AI 9) (by kernel_rfl) rfl
 obtain⟨a5,e5,w5⟩:=(hl.2 5 b5 34 rfl rfl).Dv (x:=BC AI 34) (y:=BC AI 9) (by kernel_rfl) rfl (by kernel_rfl)
 obtain rfl:b5= .list false 1 a5:=e5
 obtain⟨a6,e6,w6⟩:=(hl.2 6 b6 37 rfl rfl).Dv (x:=BC AI 37) (y:=BC AI 39) (by kernel_rfl) rfl (by kernel_rfl)
 obtain rfl:b6= .list true 8 a6:=e6
 obtain⟨a7,rfl,w7⟩:=(hl.2 7 b7 3 rfl rfl).JT (x:=BC AI 3) (by kernel_rfl) rfl
 exact⟨_,_,_,_,_,_,_,_,rfl,w0,w1,w2,w3,w4,w5,w6,w7⟩
theorem OH {x:D}(h:DF AI 45 x):∃a0 a1 a2 a3 a4 a5 a6 a7 a8 a9 a10 a11 a12 a13 a14 a15,x= .agg [.int .u8 a0,.str a1,.list true 4 a2,.int .u8 a3,.str a4,.list true 3 a5,.list true 15 a6,.int .u8 a7,.int .i64 a8,.str a9,.str a10,.str a11,.list false 1 a12,.list true 8 a13,.int .i64 a14,.int .i64 a15]∧(Lit.int .u8 a0).wf=true∧a1.size≤maxLen∧AD AI 74 a2∧(Lit.int .u8 a3).wf=true∧a4.size≤maxLen∧AD AI 33 a5∧AD AI 50 a6∧(Lit.int .u8 a7).wf=true∧(Lit.int .i64 a8).wf=true∧a9.size≤maxLen∧a10.size≤maxLen∧a11.size≤maxLen∧AD AI 9 a12∧AD AI 39 a13∧(Lit.int .i64 a14).wf=true∧(Lit.int .i64 a15).wf=true:=by
 obtain⟨cs,rfl,hs⟩:=h.agg (y:=BC AI 45) (by kernel_rfl) rfl
 have hl:=hs.flat 9 45 [5,9,42,5,9,31,43,5,2,9,9,9,34,37,3,3] cs (by kernel_rfl)
 obtain⟨b0,b1,b2,b3,b4,b5,b6,b7,b8,b9,b10,b11,b12,b13,b14,b15,rfl⟩:=jC hl.1
 obtain⟨a0,rfl,w0⟩:=(hl.2 0 b0 5 rfl rfl).JT (x:=BC AI 5) (by kernel_rfl) rfl
 obtain⟨a1,rfl,w1⟩:=(hl.2 1 b1 9 rfl rfl).HZ (x:=BC AI 9) (by kernel_rfl) rfl
 obtain⟨a2,e2,w2⟩:=(hl.2 2 b2 42 rfl rfl).Dv (x:=BC AI 42) (y:=BC AI 74) (by kernel_rfl) rfl (by kernel_rfl)
 obtain rfl:b2= .list true 4 a2:=e2
 obtain⟨a3,rfl,w3⟩:=(hl.2 3 b3 5 rfl rfl).JT (x:=BC AI 5) (by kernel_rfl) rfl
 obtain⟨a4,rfl,w4⟩:=(hl.2 4 b4 9 rfl rfl).HZ (x:=BC AI 9) (by kernel_rfl) rfl
 obtain⟨a5,e5,w5⟩:=(hl.2 5 b5 31 rfl rfl).Dv (x:=BC AI 31) (y:=BC AI 33) (by kernel_rfl) rfl (by kernel_rfl)
 obtain rfl:b5= .list true 3 a5:=e5
 obtain⟨a6,e6,w6⟩:=(hl.2 6 b6 43 rfl rfl).Dv (x:=BC AI 43) (y:=BC AI 50) (by kernel_rfl) rfl (by kernel_rfl)
 obtain rfl:b6= .list true 15 a6:=e6
 obtain⟨a7,rfl,w7⟩:=(hl.2 7 b7 5 rfl rfl).JT (x:=BC AI 5) (by kernel_rfl) rfl
 obtain⟨a8,rfl,w8⟩:=(hl.2 8 b8 2 rfl rfl).JT (x:=BC AI 2) (by kernel_rfl) rfl
 obtain⟨a9,rfl,w9⟩:=(hl.2 9 b9 9 rfl rfl).HZ (x:=BC AI 9) (by kernel_rfl) rfl
 obtain⟨a10,rfl,w10⟩:=(hl.2 10 b10 9 rfl rfl).HZ (x:=BC AI 9) (by kernel_rfl) rfl
 obtain⟨a11,rfl,w11⟩:=(hl.2 11 b11 9 rfl rfl).HZ (x:=BC AI 9) (by kernel_rfl) rfl
 obtain⟨a12,e12,w12⟩:=(hl.2 12 b12 34 rfl rfl).Dv (x:=BC AI 34) (y:=BC AI 9) (by kernel_rfl) rfl (by kernel_rfl)
 obtain rfl:b12= .list false 1 a12:=e12
 obtain⟨a13,e13,w13⟩:=(hl.2 13 b13 37 rfl rfl).Dv (x:=BC AI 37) (y:=BC AI 39) (by kernel_rfl) rfl (by kernel_rfl)
 obtain rfl:b13= .list true 8 a13:=e13
 obtain⟨a14,rfl,w14⟩:=(hl.2 14 b14 3 rfl rfl).JT (x:=BC AI 3) (by kernel_rfl) rfl
 obtain⟨a15,rfl,w15⟩:=(hl.2 15 b15 3 rfl rfl).JT (x:=BC AI 3) (by kernel_rfl) rfl
 exact⟨_,_,_,_,_,_,_,_,_,_,_,_,_,_,_,_,rfl,w0,w1,w2,w3,w4,w5,w6,w7,w8,w9,w10,w11,w12,w13,w14,w15⟩
theorem Hx {x:D}(h:DF AI 50 x):∃a0 a1 a2 a3 a4 a5 a6 a7 a8 a9 a10 a11 a12 a13 a14,x= .agg [.int .u8 a0,.str a1,.str a2,.list false 1 a3,.int .u8 a4,.str a5,.list true 3 a6,.int .i64 a7,.str a8,.list false 1 a9,.list true 8 a10,.list true 15 a11,.list true 15 a12,.list true 3 a13,.int .i64 a14]∧(Lit.int .u8 a0).wf=true∧a1.size≤maxLen∧a2.size≤maxLen∧AD AI 9 a3∧(Lit.int .u8 a4).wf=true∧a5.size≤maxLen∧AD AI 33 a6∧(Lit.int .i64 a7).wf=true∧a8.size≤maxLen∧AD AI 9 a9∧AD AI 39 a10∧AD AI 50 a11∧AD AI 50 a12∧AD AI 95 a13∧(Lit.int .i64 a14).wf=true:=by
 obtain⟨cs,rfl,hs⟩:=h.agg (y:=BC AI 50) (by kernel_rfl) rfl
 have hl:=hs.flat 9 50 [5,9,9,34,5,9,31,2,9,34,37,43,43,48,3] cs (by kernel_rfl)
 obtain⟨b0,b1,b2,b3,b4,b5,b6,b7,b8,b9,b10,b11,b12,b13,b14,rfl⟩:=jB hl.1
 obtain⟨a0,rfl,w0⟩:=(hl.2 0 b0 5 rfl rfl).JT (x:=BC AI 5) (by kernel_rfl) rfl
 obtain⟨a1,rfl,w1⟩:=(hl.2 1 b1 9 rfl rfl).HZ (x:=BC AI 9) (by kernel_rfl) rfl
 obtain⟨a2,rfl,w2⟩:=(hl.2 2 b2 9 rfl rfl).HZ (x:=BC AI 9) (by kernel_rfl) rfl
 obtain⟨a3,e3,w3⟩:=(hl.2 3 b3 34 rfl rfl).Dv (x:=BC AI 34) (y:=BC AI 9) (by kernel_rfl) rfl (by kernel_rfl)
 obtain rfl:b3= .list false 1 a3:=e3
 obtain⟨a4,rfl,w4⟩:=(hl.2 4 b4 5 rfl rfl).JT (x:=BC AI 5) (by kernel_rfl) rfl
 obtain⟨a5,rfl,w5⟩:=(hl.2 5 b5 9 rfl rfl).HZ (x:=BC AI 9) (by kernel_rfl) rfl
 obtain⟨a6,e6,w6⟩:=(hl.2 6 b6 31 rfl rfl).Dv (x:=BC AI 31) (y:=BC AI 33) (by kernel_rfl) rfl (by kernel_rfl)
 obtain rfl:b6= .list true 3 a6:=e6
 obtain⟨a7,rfl,w7⟩:=(hl.2 7 b7 2 rfl rfl).JT (x:=BC AI 2) (by kernel_rfl) rfl
 obtain⟨a8,rfl,w8⟩:=(hl.2 8 b8 9 rfl rfl).HZ (x:=BC AI 9) (by kernel_rfl) rfl
 obtain⟨a9,e9,w9⟩:=(hl.2 9 b9 34 rfl rfl).Dv (x:=BC AI 34) (y:=BC AI 9) (by kernel_rfl) rfl (by kernel_rfl)
 obtain rfl:b9= .list false 1 a9:=e9
 obtain⟨a10,e10,w10⟩:=(hl.2 10 b10 37 rfl rfl).Dv (x:=BC AI 37) (y:=BC AI 39) (by kernel_rfl) rfl (by kernel_rfl)
 obtain rfl:b10= .list true 8 a10:=e10
 obtain⟨a11,e11,w11⟩:=(hl.2 11 b11 43 rfl rfl).Dv (x:=BC AI 43) (y:=BC AI 50) (by kernel_rfl) rfl (by kernel_rfl)
 obtain rfl:b11= .list true 15 a11:=e11
 obtain⟨a12,e12,w12⟩:=(hl.2 12 b12 43 rfl rfl).Dv (x:=BC AI 43) (y:=BC AI 50) (by kernel_rfl) rfl (by kernel_rfl)
 obtain rfl:b12= .list true 15 a12:=e12
 obtain⟨a13,e13,w13⟩:=(hl.2 13 b13 48 rfl rfl).Dv (x:=BC AI 48) (y:=BC AI 95) (by kernel_rfl) rfl (by kernel_rfl)
 obtain rfl:b13= .list true 3 a13:=e13
 obtain⟨a14,rfl,w14⟩:=(hl.2 14 b14 3 rfl rfl).JT (x:=BC AI 3) (by kernel_rfl) rfl
 exact⟨_,_,_,_,_,_,_,_,_,_,_,_,_,_,_,rfl,w0,w1,w2,w3,w4,w5,w6,w7,w8,w9,w10,w11,w12,w13,w14⟩
theorem Q4 {x:D}(h:DF AI 74 x):∃a0 a1 a2 a3,x= .agg [.str a0,.int .u8 a1,.str a2,.list true 3 a3]∧a0.size≤maxLen∧(Lit.int .u8 a1).wf=true∧a2.size≤maxLen∧AD AI 33 a3:=by
 obtain⟨cs,rfl,hs⟩:=h.agg (y:=BC AI 74) (by kernel_rfl) rfl
 have hl:=hs.flat 9 74 [9,5,9,31] cs (by kernel_rfl)
 obtain⟨b0,b1,b2,b3,rfl⟩:=nL hl.1
 obtain⟨a0,rfl,w0⟩:=(hl.2 0 b0 9 rfl rfl).HZ (x:=BC AI 9) (by kernel_rfl) rfl
 obtain⟨a1,rfl,w1⟩:=(hl.2 1 b1 5 rfl rfl).JT (x:=BC AI 5) (by kernel_rfl) rfl
 obtain⟨a2,rfl,w2⟩:=(hl.2 2 b2 9 rfl rfl).HZ (x:=BC AI 9) (by kernel_rfl) rfl
 obtain⟨a3,e3,w3⟩:=(hl.2 3 b3 31 rfl rfl).Dv (x:=BC AI 31) (y:=BC AI 33) (by kernel_rfl) rfl (by kernel_rfl)
 obtain rfl:b3= .list true 3 a3:=e3
 exact⟨_,_,_,_,rfl,w0,w1,w2,w3⟩
theorem J0 {x:D}(h:DF AI 95 x):∃a0 a1 a2,x= .agg [.str a0,.str a1,.list true 15 a2]∧a0.size≤maxLen∧a1.size≤maxLen∧AD AI 50 a2:=by
 obtain⟨cs,rfl,hs⟩:=h.agg (y:=BC AI 95) (by kernel_rfl) rfl
 have hl:=hs.flat 9 95 [9,9,43] cs (by kernel_rfl)
 obtain⟨b0,b1,b2,rfl⟩:=fJ hl.1
 obtain⟨a0,rfl,w0⟩:=(hl.2 0 b0 9 rfl rfl).HZ (x:=BC AI 9) (by kernel_rfl) rfl
 obtain⟨a1,rfl,w1⟩:=(hl.2 1 b1 9 rfl rfl).HZ (x:=BC AI 9) (by kernel_rfl) rfl
 obtain⟨a2,e2,w2⟩:=(hl.2 2 b2 43 rfl rfl).Dv (x:=BC AI 43) (y:=BC AI 50) (by kernel_rfl) rfl (by kernel_rfl)
 obtain rfl:b2= .list true 15 a2:=e2
 exact⟨_,_,_,rfl,w0,w1,w2⟩
end Go.Proofs.YtjmofeakajdbiaaGreatDoor
end
set_option linter.unusedVariables false
noncomputable section
namespace Go.Proofs.YtjmofeakajdbiaaGreatDoor
open Go Go.AM
theorem Cn {i N:Nat}(h:i<N):(i:Int)<(N:Int):=Int.ofNat_lt.2 h
end Go.Proofs.YtjmofeakajdbiaaGreatDoor
set_option linter.unusedVariables false
noncomputable section
namespace Go.Proofs.YtjmofeakajdbiaaGreatDoor
open Go Go.AM
mutual
def PN:Nat->LD->LD->Bool->Option (Bool)
 | 0,_,_,_=>none
 | n+1,l3,l6,b9=>
  (if b9=true then some false else PO n l3 l6 (0:Int))
def PO:Nat->LD->LD->Int->Option (Bool)
 | 0,_,_,_=>none
 | n+1,l3,l6,z10=>
  AE l3 fun z11=>(if z10<z11 then Sq n l3 l6 z10 true else Sq n l3 l6 z10 false)
def Sq:Nat->LD->LD->Int->Bool->Option (Bool)
 | 0,_,_,_,_=>none
 | n+1,l3,l6,z10,b12=>
  (if b12=true then Ap l3 z10 fun x13=>Cf x13 fun z14 s15 l16=>Ap l6 z10 fun x17=>Cf x17 fun z18 s19 l20=>bO1 (bX n z14 s15 l16 z18 s19 l20) fun b21=>AL (!b21) fun b22=>(if b22=true then some false else AJ (IntKind.wrap .i64 (z10+1)) fun z23=>PO n l3 l6 z23)else some true)
def bX:Nat->Int->BA->LD->Int->BA->LD->Option (Bool)
 | 0,_,_,_,_,_,_=>none
 | n+1,z1,s2,l3,z4,s5,l6=>
  (if z1=z4 then (if s2=s5 then AE l3 fun z7=>AE l6 fun z8=>(if z7=z8 then PN n l3 l6 false else PN n l3 l6 true)else PN n l3 l6 true)else PN n l3 l6 true)
end
noncomputable def xX:BX:=⟨49,Tryz.f49,[.agg [.y,.str,.q 3],.agg [.y,.str,.q 3]],[],⟨.one (.b),[],[]⟩,Bool,inferInstance,bX,[⟨13,[2,3,4,26],[.loc 0,.loc 32],768,[.p (.loc 0) 0,.p (.loc 32) 0,.one (.cb false),.b],[[.y,.str,.q 3],[.y,.str,.q 3]],fun n b9 _ _ l3 _ _ l6=>PN n l3 l6 b9⟩,
 ⟨58,[2,3,4,5],[.loc 0,.loc 32],800,[.p (.loc 0) 0,.p (.loc 32) 0,.one (.cb false),.z],[[.y,.str,.q 3],[.y,.str,.q 3]],fun n z10 _ _ l3 _ _ l6=>PO n l3 l6 z10⟩,
 ⟨465,[2,3,4,5,31],[.loc 0,.loc 32],960,[.p (.loc 0) 0,.p (.loc 32) 0,.one (.cb false),.z,.b],[[.y,.str,.q 3],[.y,.str,.q 3]],fun n z10 b12 _ _ l3 _ _ l6=>Sq n l3 l6 z10 b12⟩]⟩
theorem K49:Cv Tryz.prog inv (OG [xX]):=gr [] ⟨⟨Tryz.func49,by kernel_rfl,by kernel_rfl,by kernel_rfl⟩,trivial⟩
noncomputable def uB:Kz:=⟨xX.c,K49.1⟩
mutual
def PQ:Nat->LD->LD->Int->Option (Bool)
 | 0,_,_,_=>none
 | n+1,l1,l2,z6=>
  AE l1 fun z7=>(if z6<z7 then Sr n l1 l2 z6 true else Sr n l1 l2 z6 false)
def Sr:Nat->LD->LD->Int->Bool->Option (Bool)
 | 0,_,_,_,_=>none
 | n+1,l1,l2,z6,b8=>
  (if b8=true then Ap l1 z6 fun x9=>Bv x9 fun s10 z11 s12 l13=>Ap l2 z6 fun x14=>Bv x14 fun s15 z16 s17 l18=>(if s10=s15 then Ap l1 z6 fun x19=>Bv x19 fun s20 z21 s22 l23=>Ap l2 z6 fun x24=>Bv x24 fun s25 z26 s27 l28=>bO1 (bX n z21 s22 l23 z26 s27 l28) fun b29=>AL (!b29) fun b30=>Vv n l1 l2 z6 b30 else Vv n l1 l2 z6 true)else some true)
def Vv:Nat->LD->LD->Int->Bool->Option (Bool)
 | 0,_,_,_,_=>none
 | n+1,l1,l2,z6,b31=>
  (if b31=true then some false else AJ (IntKind.wrap .i64 (z6+1)) fun z32=>PQ n l1 l2 z32)
end
def Vw:Nat->LD->LD->Bool->Option (Bool)
 | 0,_,_,_=>none
 | n+1,l1,l2,b5=>
  (if b5=true then some false else PQ n l1 l2 (0:Int))
def nP (n:Nat) (l1:LD) (l2:LD):Option (Bool):=
 AE l1 fun z3=>AE l2 fun z4=>(if z3=z4 then Vw n l1 l2 false else Vw n l1 l2 true)
noncomputable def X48:BX:=⟨48,Tryz.f48,[.q 4,.q 4],[],⟨.one (.b),[],[]⟩,Bool,inferInstance,nP,[⟨13,[0,1,4,10],[],192,[.q 4,.q 4,.one (.cb false),.b],[],fun n l1 l2 b5=>Vw n l1 l2 b5⟩,
 ⟨58,[0,1,4,5],[],224,[.q 4,.q 4,.one (.cb false),.z],[],fun n l1 l2 z6=>PQ n l1 l2 z6⟩,
 ⟨465,[0,1,4,5,14],[],352,[.q 4,.q 4,.one (.cb false),.z,.b],[],fun n l1 l2 z6 b8=>Sr n l1 l2 z6 b8⟩,
 ⟨1865,[0,1,4,5,41],[],1152,[.q 4,.q 4,.one (.cb false),.z,.b],[],fun n l1 l2 z6 b31=>Vv n l1 l2 z6 b31⟩]⟩
noncomputable def k48:Kz:=sg X48 [uB] Tryz.func48 (by kernel_rfl) (by kernel_rfl) (by kernel_rfl)
mutual
def PR:Nat->LD->LD->Int->Option (Bool)
 | 0,_,_,_=>none
 | n+1,l1,l2,z6=>
  AE l1 fun z7=>(if z6<z7 then Su n l1 l2 z6 true else Su n l1 l2 z6 false)
def Su:Nat->LD->LD->Int->Bool->Option (Bool)
 | 0,_,_,_,_=>none
 | n+1,l1,l2,z6,b8=>
  (if b8=true then Ap l1 z6 fun x9=>Bj x9 fun s10=>Ap l2 z6 fun x11=>Bj x11 fun s12=>(if s10=s12 then Vx n l1 l2 z6 false else Vx n l1 l2 z6 true)else some true)
def Vx:Nat->LD->LD->Int->Bool->Option (Bool)
 | 0,_,_,_,_=>none
 | n+1,l1,l2,z6,b13=>
  (if b13=true then some false else AJ (IntKind.wrap .i64 (z6+1)) fun z14=>PR n l1 l2 z14)
end
def Vy:Nat->LD->LD->Bool->Option (Bool)
 | 0,_,_,_=>none
 | n+1,l1,l2,b5=>
  (if b5=true then some false else PR n l1 l2 (0:Int))
def nQ (n:Nat) (l1:LD) (l2:LD):Option (Bool):=
 AE l1 fun z3=>AE l2 fun z4=>(if z3=z4 then Vy n l1 l2 false else Vy n l1 l2 true)
noncomputable def X90:BX:=⟨90,Tryz.f90,[.f 1,.f 1],[],⟨.one (.b),[],[]⟩,Bool,inferInstance,nQ,[⟨13,[0,1,4,10],[],192,[.f 1,.f 1,.one (.cb false),.b],[],fun n l1 l2 b5=>Vy n l1 l2 b5⟩,
 ⟨58,[0,1,4,5],[],224,[.f 1,.f 1,.one (.cb false),.z],[],fun n l1 l2 z6=>PR n l1 l2 z6⟩,
 ⟨465,[0,1,4,5,14],[],352,[.f 1,.f 1,.one (.cb false),.z,.b],[],fun n l1 l2 z6 b8=>Su n l1 l2 z6 b8⟩,
 ⟨1865,[0,1,4,5,25],[],640,[.f 1,.f 1,.one (.cb false),.z,.b],[],fun n l1 l2 z6 b13=>Vx n l1 l2 z6 b13⟩]⟩
noncomputable def xY:Kz:=sg X90 [] Tryz.func90 (by kernel_rfl) (by kernel_rfl) (by kernel_rfl)
def lR (n:Nat) (s1:BA) (l2:LD) (s3:BA) (l4:LD):Option (Bool):=
 (if s1=s3 then bO1 (nQ n l2 l4) fun b5=>some b5 else some false)
noncomputable def X91:BX:=⟨91,Tryz.f91,[.agg [.str,.f 1],.agg [.str,.f 1]],[],⟨.one (.b),[],[]⟩,Bool,inferInstance,lR,[]⟩
noncomputable def xZ:Kz:=sg X91 [xY] Tryz.func91 (by kernel_rfl) (by kernel_rfl) (by kernel_rfl)
mutual
def lS:Nat->Int->Int->BA->BA->BA->LD->LD->Int->Int->Int->BA->BA->BA->LD->LD->Int->Bool->Option (Bool)
 | 0,_,_,_,_,_,_,_,_,_,_,_,_,_,_,_,_,_=>none
 | n+1,z1,z2,s3,s4,s5,l6,l7,z8,z9,z10,s11,s12,s13,l14,l15,z16,b17=>
  (if z1=z9 then (if z2=z10 then (if s3=s11 then (if s4=s12 then AL (!b17) fun b18=>(if b18=true then bO1 (lR n s5 l6 s13 l14) fun b19=>(if b19=true then bO1 (fK n l7 l15 b17) fun b20=>some b20 else some false)else (if z8=z16 then bO1 (lR n s5 l6 s13 l14) fun b21=>(if b21=true then bO1 (fK n l7 l15 b17) fun b22=>some b22 else some false)else some false))else some false)else some false)else some false)else some false)
def Vz:Nat->LD->LD->Bool->Bool->Option (Bool)
 | 0,_,_,_,_=>none
 | n+1,l1,l2,b3,b6=>
  (if b6=true then some false else PT n l1 l2 b3 (0:Int))
def PT:Nat->LD->LD->Bool->Int->Option (Bool)
 | 0,_,_,_,_=>none
 | n+1,l1,l2,b3,z7=>
  AE l1 fun z8=>(if z7<z8 then Sv n l1 l2 b3 z7 true else Sv n l1 l2 b3 z7 false)
def Sv:Nat->LD->LD->Bool->Int->Bool->Option (Bool)
 | 0,_,_,_,_,_=>none
 | n+1,l1,l2,b3,z7,b9=>
  (if b9=true then Ap l1 z7 fun x10=>BD x10 fun z11 z12 s13 s14 s15 l16 l17 z18=>Ap l2 z7 fun x19=>BD x19 fun z20 z21 s22 s23 s24 l25 l26 z27=>bO1 (lS n z11 z12 s13 s14 s15 l16 l17 z18 z20 z21 s22 s23 s24 l25 l26 z27 b3) fun b28=>AL (!b28) fun b29=>(if b29=true then some false else AJ (IntKind.wrap .i64 (z7+1)) fun z30=>PT n l1 l2 b3 z30)else some true)
def fK:Nat->LD->LD->Bool->Option (Bool)
 | 0,_,_,_=>none
 | n+1,l1,l2,b3=>
  AE l1 fun z4=>AE l2 fun z5=>(if z4=z5 then Vz n l1 l2 b3 false else Vz n l1 l2 b3 true)
end
noncomputable def yA:BX:=⟨51,Tryz.f51,[.agg [.y,.z,.str,.str,.str,.f 1,.q 8,.z],.agg [.y,.z,.str,.str,.str,.f 1,.q 8,.z],.b],[],⟨.one (.b),[],[]⟩,Bool,inferInstance,lS,[]⟩
noncomputable def yB:BX:=⟨92,Tryz.f92,[.q 8,.q 8,.b],[],⟨.one (.b),[],[]⟩,Bool,inferInstance,fK,[⟨13,[0,1,2,6,12],[],192,[.q 8,.q 8,.b,.one (.cb false),.b],[],fun n l1 l2 b3 b6=>Vz n l1 l2 b3 b6⟩,
 ⟨58,[0,1,2,6,7],[],224,[.q 8,.q 8,.b,.one (.cb false),.z],[],fun n l1 l2 b3 z7=>PT n l1 l2 b3 z7⟩,
 ⟨465,[0,1,2,6,7,16],[],352,[.q 8,.q 8,.b,.one (.cb false),.z,.b],[],fun n l1 l2 b3 z7 b9=>Sv n l1 l2 b3 z7 b9⟩]⟩
theorem yC:Cv Tryz.prog inv (OG [yA,yB]):=gr [xZ] ⟨⟨Tryz.func51,by kernel_rfl,by kernel_rfl,by kernel_rfl⟩,⟨Tryz.func92,by kernel_rfl,by kernel_rfl,by kernel_rfl⟩,trivial⟩
noncomputable def k51:Kz:=⟨yA.c,yC.1⟩
noncomputable def k92:Kz:=⟨yB.c,yC.2.1⟩
mutual
def V0:Nat->LD->LD->Bool->Bool->Option (Bool)
 | 0,_,_,_,_=>none
 | n+1,l1,l2,b3,b6=>
  (if b6=true then some false else PU n l1 l2 b3 (0:Int))
def PU:Nat->LD->LD->Bool->Int->Option (Bool)
 | 0,_,_,_,_=>none
 | n+1,l1,l2,b3,z7=>
  AE l1 fun z8=>(if z7<z8 then Sw n l1 l2 b3 z7 true else Sw n l1 l2 b3 z7 false)
def Sw:Nat->LD->LD->Bool->Int->Bool->Option (Bool)
 | 0,_,_,_,_,_=>none
 | n+1,l1,l2,b3,z7,b9=>
  (if b9=true then Ap l1 z7 fun x10=>BJ x10 fun z11 s12 s13 l14 z15 s16 l17 z18 s19 l20 l21 l22 l23 l24 z25=>Ap l2 z7 fun x26=>BJ x26 fun z27 s28 s29 l30 z31 s32 l33 z34 s35 l36 l37 l38 l39 l40 z41=>(if z11=z27 then (if s12=s28 then (if s13=s29 then (if z18=z34 then (if b3=true then (if z25=z41 then AE l24 fun z42=>AE l40 fun z43=>(if z42=z43 then Hy n l1 l2 b3 z7 l14 z15 s16 l17 s19 l20 l21 l22 l23 l24 l30 z31 s32 l33 s35 l36 l37 l38 l39 l40 false else Hy n l1 l2 b3 z7 l14 z15 s16 l17 s19 l20 l21 l22 l23 l24 l30 z31 s32 l33 s35 l36 l37 l38 l39 l40 true)else Hy n l1 l2 b3 z7 l14 z15 s16 l17 s19 l20 l21 l22 l23 l24 l30 z31 s32 l33 s35 l36 l37 l38 l39 l40 true)else AE l24 fun z44=>AE l40 fun z45=>(if z44=z45 then Hy n l1 l2 b3 z7 l14 z15 s16 l17 s19 l20 l21 l22 l23 l24 l30 z31 s32 l33 s35 l36 l37 l38 l39 l40 false else Hy n l1 l2 b3 z7 l14 z15 s16 l17 s19 l20 l21 l22 l23 l24 l30 z31 s32 l33 s35 l36 l37 l38 l39 l40 true))else Hy n l1 l2 b3 z7 l14 z15 s16 l17 s19 l20 l21 l22 l23 l24 l30 z31 s32 l33 s35 l36 l37 l38 l39 l40 true)else Hy n l1 l2 b3 z7 l14 z15 s16 l17 s19 l20 l21 l22 l23 l24 l30 z31 s32 l33 s35 l36 l37 l38 l39 l40 true)else Hy n l1 l2 b3 z7 l14 z15 s16 l17 s19 l20 l21 l22 l23 l24 l30 z31 s32 l33 s35 l36 l37 l38 l39 l40 true)else Hy n l1 l2 b3 z7 l14 z15 s16 l17 s19 l20 l21 l22 l23 l24 l30 z31 s32 l33 s35 l36 l37 l38 l39 l40 true)else some true)
def Hy:Nat->LD->LD->Bool->Int->LD->Int->BA->LD->BA->LD->LD->LD->LD->LD->LD->Int->BA->LD->BA->LD->LD->LD->LD->LD->Bool->Option (Bool)
 | 0,_,_,_,_,_,_,_,_,_,_,_,_,_,_,_,_,_,_,_,_,_,_,_,_,_=>none
 | n+1,l1,l2,b3,z7,l14,z15,s16,l17,s19,l20,l21,l22,l23,l24,l30,z31,s32,l33,s35,l36,l37,l38,l39,l40,b46=>
  (if b46=true then some false else bO1 (nQ n l14 l30) fun b47=>AL (!b47) fun b48=>(if b48=true then LZ n l1 l2 b3 z7 l24 l40 true else bO1 (bX n z15 s16 l17 z31 s32 l33) fun b49=>AL (!b49) fun b50=>(if b50=true then LZ n l1 l2 b3 z7 l24 l40 true else bO1 (lR n s19 l20 s35 l36) fun b51=>AL (!b51) fun b52=>(if b52=true then LZ n l1 l2 b3 z7 l24 l40 true else bO1 (fK n l21 l37 b3) fun b53=>AL (!b53) fun b54=>(if b54=true then LZ n l1 l2 b3 z7 l24 l40 true else bO1 (bZ n l22 l38 b3) fun b55=>AL (!b55) fun b56=>(if b56=true then LZ n l1 l2 b3 z7 l24 l40 true else bO1 (bZ n l23 l39 b3) fun b57=>AL (!b57) fun b58=>LZ n l1 l2 b3 z7 l24 l40 b58))))))
def LZ:Nat->LD->LD->Bool->Int->LD->LD->Bool->Option (Bool)
 | 0,_,_,_,_,_,_,_=>none
 | n+1,l1,l2,b3,z7,l24,l40,b59=>
  (if b59=true then some false else PV n l1 l2 b3 z7 l24 l40 (0:Int))
def PV:Nat->LD->LD->Bool->Int->LD->LD->Int->Option (Bool)
 | 0,_,_,_,_,_,_,_=>none
 | n+1,l1,l2,b3,z7,l24,l40,z60=>
  AE l24 fun z61=>(if z60<z61 then Sx n l1 l2 b3 z7 l24 l40 z60 true else Sx n l1 l2 b3 z7 l24 l40 z60 false)
def Sx:Nat->LD->LD->Bool->Int->LD->LD->Int->Bool->Option (Bool)
 | 0,_,_,_,_,_,_,_,_=>none
 | n+1,l1,l2,b3,z7,l24,l40,z60,b62=>
  (if b62=true then Ap l24 z60 fun x63=>Bf x63 fun s64 s65 l66=>Ap l40 z60 fun x67=>Bf x67 fun s68 s69 l70=>(if s64=s68 then Ap l24 z60 fun x71=>Bf x71 fun s72 s73 l74=>Ap l40 z60 fun x75=>Bf x75 fun s76 s77 l78=>(if s73=s77 then Ap l24 z60 fun x79=>Bf x79 fun s80 s81 l82=>Ap l40 z60 fun x83=>Bf x83 fun s84 s85 l86=>bO1 (bZ n l82 l86 b3) fun b87=>AL (!b87) fun b88=>Sy n l1 l2 b3 z7 l24 l40 z60 b88 else Sy n l1 l2 b3 z7 l24 l40 z60 true)else Sy n l1 l2 b3 z7 l24 l40 z60 true)else AJ (IntKind.wrap .i64 (z7+1)) fun z91=>PU n l1 l2 b3 z91)
def Sy:Nat->LD->LD->Bool->Int->LD->LD->Int->Bool->Option (Bool)
 | 0,_,_,_,_,_,_,_,_=>none
 | n+1,l1,l2,b3,z7,l24,l40,z60,b89=>
  (if b89=true then some false else AJ (IntKind.wrap .i64 (z60+1)) fun z90=>PV n l1 l2 b3 z7 l24 l40 z90)
def bZ:Nat->LD->LD->Bool->Option (Bool)
 | 0,_,_,_=>none
 | n+1,l1,l2,b3=>
  AE l1 fun z4=>AE l2 fun z5=>(if z4=z5 then V0 n l1 l2 b3 false else V0 n l1 l2 b3 true)
end
noncomputable def yD:BX:=⟨50,Tryz.f50,[.q 15,.q 15,.b],[],⟨.one (.b),[],[]⟩,Bool,inferInstance,bZ,[⟨13,[0,1,2,6,15],[],192,[.q 15,.q 15,.b,.one (.cb false),.b],[],fun n l1 l2 b3 b6=>V0 n l1 l2 b3 b6⟩,
 ⟨58,[0,1,2,6,7],[],224,[.q 15,.q 15,.b,.one (.cb false),.z],[],fun n l1 l2 b3 z7=>PU n l1 l2 b3 z7⟩,
 ⟨465,[0,1,2,6,7,19],[],352,[.q 15,.q 15,.b,.one (.cb false),.z,.b],[],fun n l1 l2 b3 z7 b9=>Sw n l1 l2 b3 z7 b9⟩,
 ⟨7461,[0,1,2,6,7,8,9,74],[.loc 608,.loc 640],2176,[.q 15,.q 15,.b,.one (.cb false),.z,.p (.loc 608) 0,.p (.loc 640) 0,.b],[[.y,.str,.str,.f 1,.y,.str,.q 3,.z,.str,.f 1,.q 8,.q 15,.q 15,.q 3,.z],[.y,.str,.str,.f 1,.y,.str,.q 3,.z,.str,.f 1,.q 8,.q 15,.q 15,.q 3,.z]],fun n l1 l2 b3 z7 b46 _ _ _ l14 z15 s16 l17 _ s19 l20 l21 l22 l23 l24 _ _ _ _ l30 z31 s32 l33 _ s35 l36 l37 l38 l39 l40 _=>Hy n l1 l2 b3 z7 l14 z15 s16 l17 s19 l20 l21 l22 l23 l24 l30 z31 s32 l33 s35 l36 l37 l38 l39 l40 b46⟩,
 ⟨14925,[0,1,2,6,7,8,9,123],[.loc 608,.loc 640],3744,[.q 15,.q 15,.b,.one (.cb false),.z,.p (.loc 608) 0,.p (.loc 640) 0,.b],[[.y,.str,.str,.f 1,.y,.str,.q 3,.z,.str,.f 1,.q 8,.q 15,.q 15,.q 3,.z],[.y,.str,.str,.f 1,.y,.str,.q 3,.z,.str,.f 1,.q 8,.q 15,.q 15,.q 3,.z]],fun n l1 l2 b3 z7 b59 _ _ _ _ _ _ _ _ _ _ _ _ _ l24 _ _ _ _ _ _ _ _ _ _ _ _ _ _ l40 _=>LZ n l1 l2 b3 z7 l24 l40 b59⟩,
 ⟨29854,[0,1,2,6,7,8,9,10],[.loc 608,.loc 640],3776,[.q 15,.q 15,.b,.one (.cb false),.z,.p (.loc 608) 0,.p (.loc 640) 0,.z],[[.y,.str,.str,.f 1,.y,.str,.q 3,.z,.str,.f 1,.q 8,.q 15,.q 15,.q 3,.z],[.y,.str,.str,.f 1,.y,.str,.q 3,.z,.str,.f 1,.q 8,.q 15,.q 15,.q 3,.z]],fun n l1 l2 b3 z7 z60 _ _ _ _ _ _ _ _ _ _ _ _ _ l24 _ _ _ _ _ _ _ _ _ _ _ _ _ _ l40 _=>PV n l1 l2 b3 z7 l24 l40 z60⟩,
 ⟨238833,[0,1,2,6,7,8,9,10,128],[.loc 608,.loc 640],3936,[.q 15,.q 15,.b,.one (.cb false),.z,.p (.loc 608) 0,.p (.loc 640) 0,.z,.b],[[.y,.str,.str,.f 1,.y,.str,.q 3,.z,.str,.f 1,.q 8,.q 15,.q 15,.q 3,.z],[.y,.str,.str,.f 1,.y,.str,.q 3,.z,.str,.f 1,.q 8,.q 15,.q 15,.q 3,.z]],fun n l1 l2 b3 z7 z60 b62 _ _ _ _ _ _ _ _ _ _ _ _ _ l24 _ _ _ _ _ _ _ _ _ _ _ _ _ _ l40 _=>Sx n l1 l2 b3 z7 l24 l40 z60 b62⟩,
 ⟨955337,[0,1,2,6,7,8,9,10,175],[.loc 608,.loc 640],5376,[.q 15,.q 15,.b,.one (.cb false),.z,.p (.loc 608) 0,.p (.loc 640) 0,.z,.b],[[.y,.str,.str,.f 1,.y,.str,.q 3,.z,.str,.f 1,.q 8,.q 15,.q 15,.q 3,.z],[.y,.str,.str,.f 1,.y,.str,.q 3,.z,.str,.f 1,.q 8,.q 15,.q 15,.q 3,.z]],fun n l1 l2 b3 z7 z60 b89 _ _ _ _ _ _ _ _ _ _ _ _ _ l24 _ _ _ _ _ _ _ _ _ _ _ _ _ _ l40 _=>Sy n l1 l2 b3 z7 l24 l40 z60 b89⟩]⟩
theorem K50:Cv Tryz.prog inv (OG [yD]):=gr [uB,xY,xZ,k92] ⟨⟨Tryz.func50,by kernel_rfl,by kernel_rfl,by kernel_rfl⟩,trivial⟩
noncomputable def k50:Kz:=⟨yD.c,K50.1⟩
mutual
def PW:Nat->LD->LD->Bool->Int->Option (Bool)
 | 0,_,_,_,_=>none
 | n+1,l1,l2,b3,z7=>
  AE l1 fun z8=>(if z7<z8 then Sz n l1 l2 b3 z7 true else Sz n l1 l2 b3 z7 false)
def Sz:Nat->LD->LD->Bool->Int->Bool->Option (Bool)
 | 0,_,_,_,_,_=>none
 | n+1,l1,l2,b3,z7,b9=>
  (if b9=true then Ap l1 z7 fun x10=>BU x10 fun z11 s12 l13 z14 s15 l16 l17 z18 z19 s20 s21 s22 l23 l24 z25 z26=>Ap l2 z7 fun x27=>BU x27 fun z28 s29 l30 z31 s32 l33 l34 z35 z36 s37 s38 s39 l40 l41 z42 z43=>(if z11=z28 then (if s12=s29 then (if b3=true then (if z26=z43 then bO1 (nP n l13 l30) fun b44=>AL (!b44) fun b45=>(if b45=true then GN n l1 l2 b3 z7 true else bO1 (bX n z14 s15 l16 z31 s32 l33) fun b46=>AL (!b46) fun b47=>(if b47=true then GN n l1 l2 b3 z7 true else bO1 (bZ n l17 l34 b3) fun b48=>AL (!b48) fun b49=>(if b49=true then GN n l1 l2 b3 z7 true else bO1 (lS n z18 z19 s20 s21 s22 l23 l24 z25 z35 z36 s37 s38 s39 l40 l41 z42 b3) fun b50=>AL (!b50) fun b51=>GN n l1 l2 b3 z7 b51)))else GN n l1 l2 b3 z7 true)else bO1 (nP n l13 l30) fun b52=>AL (!b52) fun b53=>(if b53=true then GN n l1 l2 b3 z7 true else bO1 (bX n z14 s15 l16 z31 s32 l33) fun b54=>AL (!b54) fun b55=>(if b55=true then GN n l1 l2 b3 z7 true else bO1 (bZ n l17 l34 b3) fun b56=>AL (!b56) fun b57=>(if b57=true then GN n l1 l2 b3 z7 true else bO1 (lS n z18 z19 s20 s21 s22 l23 l24 z25 z35 z36 s37 s38 s39 l40 l41 z42 b3) fun b58=>AL (!b58) fun b59=>GN n l1 l2 b3 z7 b59))))else GN n l1 l2 b3 z7 true)else GN n l1 l2 b3 z7 true)else some true)
def GN:Nat->LD->LD->Bool->Int->Bool->Option (Bool)
 | 0,_,_,_,_,_=>none
 | n+1,l1,l2,b3,z7,b60=>
  (if b60=true then some false else AJ (IntKind.wrap .i64 (z7+1)) fun z61=>PW n l1 l2 b3 z61)
end
def V2:Nat->LD->LD->Bool->Bool->Option (Bool)
 | 0,_,_,_,_=>none
 | n+1,l1,l2,b3,b6=>
  (if b6=true then some false else PW n l1 l2 b3 (0:Int))
def rQ (n:Nat) (l1:LD) (l2:LD) (b3:Bool):Option (Bool):=
 AE l1 fun z4=>AE l2 fun z5=>(if z4=z5 then V2 n l1 l2 b3 false else V2 n l1 l2 b3 true)
noncomputable def X16:BX:=⟨16,Tryz.f16,[.agg [.q 16],.agg [.q 16],.b],[],⟨.one (.b),[],[]⟩,Bool,inferInstance,rQ,[⟨13,[2,3,4,6,16],[.loc 0,.loc 32],320,[.b,.p (.loc 0) 0,.p (.loc 32) 0,.one (.cb false),.b],[[.q 16],[.q 16]],fun n b3 b6 l1 l2=>V2 n l1 l2 b3 b6⟩,
 ⟨58,[2,3,4,6,7],[.loc 0,.loc 32],352,[.b,.p (.loc 0) 0,.p (.loc 32) 0,.one (.cb false),.z],[[.q 16],[.q 16]],fun n b3 z7 l1 l2=>PW n l1 l2 b3 z7⟩,
 ⟨465,[2,3,4,6,7,21],[.loc 0,.loc 32],512,[.b,.p (.loc 0) 0,.p (.loc 32) 0,.one (.cb false),.z,.b],[[.q 16],[.q 16]],fun n b3 z7 b9 l1 l2=>Sz n l1 l2 b3 z7 b9⟩,
 ⟨3731,[2,3,4,6,7,89],[.loc 0,.loc 32],2752,[.b,.p (.loc 0) 0,.p (.loc 32) 0,.one (.cb false),.z,.b],[[.q 16],[.q 16]],fun n b3 z7 b60 l1 l2=>GN n l1 l2 b3 z7 b60⟩]⟩
noncomputable def k16:Kz:=sg X16 [k48,uB,k50,k51] Tryz.func16 (by kernel_rfl) (by kernel_rfl) (by kernel_rfl)
end Go.Proofs.YtjmofeakajdbiaaGreatDoor
end
set_option linter.unusedVariables false
noncomputable section
namespace Go.Proofs.YtjmofeakajdbiaaGreatDoor
open Go Go.AM
theorem NQ {l:List D}(h:AD AI 9 l):Ev (fun n=>nQ n l l) true:=by
 have loop:∀i:Nat,i≤l.length→Ev (fun n=>PR n l l (i:Int)) true:=by
  refine down l.length ?_ ?_
  ·refine .succ ?_
   simp only[PR,AE,Int.lt_irrefl,if_false]
   exact .succ (by simp only[Su,Bool.false_eq_true,if_false];exact .ret)
  ·intro i hi ih
   obtain⟨x,hx,hm,hr⟩:=h.get hi
   obtain⟨a,rfl,_⟩:=Z7 hr
   refine .succ ?_
   simp only[PR,AE,if_pos (Cn hi)]
   refine .succ ?_
   simp only[Su,if_true,AH hx,Bj]
   refine .succ ?_
   simp only[Vx,Bool.false_eq_true,if_false,AJ,AG hi h.1]
   exact ih
 unfold nQ
 simp only[AE,if_true]
 exact .succ (by simp only[Vy,Bool.false_eq_true,if_false];exact loop 0 (Nat.zero_le _))
theorem NR {l:List D}(h:AD AI 9 l) (s:ByteArray):Ev (fun n=>lR n s l s l) true:=by
 unfold lR
 simp only[if_true]
 exact Ev.bO1 (NQ h) .ret
theorem Q5 (l:List D):AD AI 33 l→∀(z:Int) (s:ByteArray),Ev (fun n=>bX n z s l z s l) true:=by
 refine Ba (P:=fun l=>AD AI 33 l→∀(z:Int) (s:ByteArray),Ev (fun n=>bX n z s l z s l) true) (fun l ih h=>?_) l
 have loop:∀i:Nat,i≤l.length→Ev (fun n=>PO n l l (i:Int)) true:=by
  refine down l.length ?_ ?_
  ·refine .succ ?_
   simp only[PO,AE,Int.lt_irrefl,if_false]
   exact .succ (by simp only[Sq,Bool.false_eq_true,if_false];exact .ret)
  ·intro i hi ihl
   obtain⟨x,hx,hm,hr⟩:=h.get hi
   obtain⟨a,s,m,rfl,w0,w1,w2⟩:=U4 hr
   refine .succ ?_
   simp only[PO,AE,if_pos (Cn hi)]
   refine .succ ?_
   simp only[Sq,if_true,AH hx,Cf]
   refine Ev.bO1 (ih m (Af (ag:=true) (sz:=3) hm (by simp)) w2 a s) ?_
   simp only[AL,Bool.not_true,Bool.false_eq_true,if_false,AJ,AG hi h.1]
   exact ihl
 intro z s
 refine .succ ?_
 simp only[bX,if_true,AE]
 exact .succ (by simp only[PN,Bool.false_eq_true,if_false];exact loop 0 (Nat.zero_le _))
theorem S0 {l6 l7:List D}(h6:AD AI 9 l6) (h7:Ev (fun n=>fK n l7 l7 true) true) (z1 z2:Int) (s3 s4 s5:ByteArray) (z8:Int):Ev (fun n=>lS n z1 z2 s3 s4 s5 l6 l7 z8 z1 z2 s3 s4 s5 l6 l7 z8 true) true:=by
 refine .succ ?_
 simp only[lS,if_true,AL,Bool.not_true,Bool.false_eq_true,if_false]
 refine Ev.bO1 (NR h6 s5) ?_
 simp only[if_true]
 exact Ev.bO1 h7 .ret
theorem V3 (l:List D):AD AI 39 l→Ev (fun n=>fK n l l true) true:=by
 refine Ba (P:=fun l=>AD AI 39 l→Ev (fun n=>fK n l l true) true) (fun l ih h=>?_) l
 have loop:∀i:Nat,i≤l.length→Ev (fun n=>PT n l l true (i:Int)) true:=by
  refine down l.length ?_ ?_
  ·refine .succ ?_
   simp only[PT,AE,Int.lt_irrefl,if_false]
   exact .succ (by simp only[Sv,Bool.false_eq_true,if_false];exact .ret)
  ·intro i hi ihl
   obtain⟨x,hx,hm,hr⟩:=h.get hi
   obtain⟨a0,a1,a2,a3,a4,a5,a6,a7,rfl,w0,w1,w2,w3,w4,w5,w6,w7⟩:=Jz hr
   refine .succ ?_
   simp only[PT,AE,if_pos (Cn hi)]
   refine .succ ?_
   simp only[Sv,if_true,AH hx,BD]
   refine Ev.bO1 (S0 w5 (ih a6 (Af (ag:=true) (sz:=8) hm (by simp)) w6) a0 a1 a2 a3 a4 a7) ?_
   simp only[AL,Bool.not_true,Bool.false_eq_true,if_false,AJ,AG hi h.1]
   exact ihl
 refine .succ ?_
 simp only[fK,AE,if_true]
 exact .succ (by simp only[Vz,Bool.false_eq_true,if_false];exact loop 0 (Nat.zero_le _))
theorem cA (l:List D):AD AI 50 l→Ev (fun n=>bZ n l l true) true:=by
 refine Ba (P:=fun l=>AD AI 50 l→Ev (fun n=>bZ n l l true) true) (fun l ih h=>?_) l
 have loop:∀i:Nat,i≤l.length→Ev (fun n=>PU n l l true (i:Int)) true:=by
  refine down l.length ?_ ?_
  ·refine .succ ?_
   simp only[PU,AE,Int.lt_irrefl,if_false]
   exact .succ (by simp only[Sw,Bool.false_eq_true,if_false];exact .ret)
  ·intro i hi ihl
   obtain⟨x,hx,hm,hr⟩:=h.get hi
   obtain⟨a0,a1,a2,a3,a4,a5,a6,a7,a8,a9,a10,a11,a12,a13,a14,rfl,w0,w1,w2,w3,w4,w5,w6,w7,w8,w9,w10,w11,w12,w13,w14⟩:=Hx hr
   have arms:∀j:Nat,j≤a13.length→Ev (fun n=>PV n l l true (i:Int) a13 a13 (j:Int)) true:=by
    refine down a13.length ?_ ?_
    ·refine .succ ?_
     simp only[PV,AE,Int.lt_irrefl,if_false]
     refine .succ ?_
     simp only[Sx,Bool.false_eq_true,if_false,AJ,AG hi h.1]
     exact ihl
    ·intro j hj iha
     obtain⟨y,hy,hm2,hr2⟩:=w13.get hj
     obtain⟨t1,t2,m,rfl,v0,v1,v2⟩:=J0 hr2
     refine .succ ?_
     simp only[PV,AE,if_pos (Cn hj)]
     refine .succ ?_
     simp only[Sx,if_true,AH hy,Bf]
     refine Ev.bO1 (ih m (Nat.lt_trans (Af (ag:=true) (sz:=15) hm2 (by simp)) (Af (ag:=true) (sz:=3) hm (by simp))) v2) ?_
     simp only[AL,Bool.not_true]
     refine .succ ?_
     simp only[Sy,Bool.false_eq_true,if_false,AJ,AG hj w13.1]
     exact iha
   refine .succ ?_
   simp only[PU,AE,if_pos (Cn hi)]
   refine .succ ?_
   simp only[Sw,if_true,AH hx,BJ,AE]
   refine .succ ?_
   simp only[Hy,Bool.false_eq_true,if_false]
   refine Ev.bO1 (NQ w3) ?_
   simp only[AL,Bool.not_true,Bool.false_eq_true,if_false]
   refine Ev.bO1 (Q5 a6 w6 a4 a5) ?_
   simp only[AL,Bool.not_true,Bool.false_eq_true,if_false]
   refine Ev.bO1 (NR w9 a8) ?_
   simp only[AL,Bool.not_true,Bool.false_eq_true,if_false]
   refine Ev.bO1 (V3 a10 w10) ?_
   simp only[AL,Bool.not_true,Bool.false_eq_true,if_false]
   refine Ev.bO1 (ih a11 (Af (ag:=true) (sz:=15) hm (by simp)) w11) ?_
   simp only[AL,Bool.not_true,Bool.false_eq_true,if_false]
   refine Ev.bO1 (ih a12 (Af (ag:=true) (sz:=15) hm (by simp)) w12) ?_
   simp only[AL,Bool.not_true]
   refine .succ ?_
   simp only[LZ,Bool.false_eq_true,if_false]
   exact arms 0 (Nat.zero_le _)
 refine .succ ?_
 simp only[bZ,AE,if_true]
 exact .succ (by simp only[V0,Bool.false_eq_true,if_false];exact loop 0 (Nat.zero_le _))
theorem ZH {l:List D}(h:AD AI 74 l):Ev (fun n=>nP n l l) true:=by
 have loop:∀i:Nat,i≤l.length→Ev (fun n=>PQ n l l (i:Int)) true:=by
  refine down l.length ?_ ?_
  ·refine .succ ?_
   simp only[PQ,AE,Int.lt_irrefl,if_false]
   exact .succ (by simp only[Sr,Bool.false_eq_true,if_false];exact .ret)
  ·intro i hi ihl
   obtain⟨x,hx,hm,hr⟩:=h.get hi
   obtain⟨a0,a1,a2,a3,rfl,w0,w1,w2,w3⟩:=Q4 hr
   refine .succ ?_
   simp only[PQ,AE,if_pos (Cn hi)]
   refine .succ ?_
   simp only[Sr,if_true,AH hx,Bv]
   refine Ev.bO1 (Q5 a3 w3 a1 a2) ?_
   simp only[AL,Bool.not_true]
   refine .succ ?_
   simp only[Vv,Bool.false_eq_true,if_false,AJ,AG hi h.1]
   exact ihl
 unfold nP
 simp only[AE,if_true]
 exact .succ (by simp only[Vw,Bool.false_eq_true,if_false];exact loop 0 (Nat.zero_le _))
theorem XG {l:List D}(h:AD AI 45 l):Ev (fun n=>rQ n l l true) true:=by
 have loop:∀i:Nat,i≤l.length→Ev (fun n=>PW n l l true (i:Int)) true:=by
  refine down l.length ?_ ?_
  ·refine .succ ?_
   simp only[PW,AE,Int.lt_irrefl,if_false]
   exact .succ (by simp only[Sz,Bool.false_eq_true,if_false];exact .ret)
  ·intro i hi ihl
   obtain⟨x,hx,hm,hr⟩:=h.get hi
   obtain⟨a0,a1,a2,a3,a4,a5,a6,a7,a8,a9,a10,a11,a12,a13,a14,a15,rfl,w0,w1,w2,w3,w4,w5,w6,w7,w8,w9,w10,w11,w12,w13,w14,w15⟩:=OH hr
   refine .succ ?_
   simp only[PW,AE,if_pos (Cn hi)]
   refine .succ ?_
   simp only[Sz,if_true,AH hx,BU]
   refine Ev.bO1 (ZH w2) ?_
   simp only[AL,Bool.not_true,Bool.false_eq_true,if_false]
   refine Ev.bO1 (Q5 a5 w5 a3 a4) ?_
   simp only[AL,Bool.not_true,Bool.false_eq_true,if_false]
   refine Ev.bO1 (cA a6 w6) ?_
   simp only[AL,Bool.not_true,Bool.false_eq_true,if_false]
   refine Ev.bO1 (S0 w12 (V3 a13 w13) a7 a8 a9 a10 a11 a14) ?_
   simp only[AL,Bool.not_true]
   refine .succ ?_
   simp only[GN,Bool.false_eq_true,if_false,AJ,AG hi h.1]
   exact ihl
 unfold rQ
 simp only[AE,if_true]
 exact .succ (by simp only[V2,Bool.false_eq_true,if_false];exact loop 0 (Nat.zero_le _))
end Go.Proofs.YtjmofeakajdbiaaGreatDoor
end
set_option linter.unusedVariables false
noncomputable section
namespace Go.Proofs.YtjmofeakajdbiaaGreatDoor
open Go Go.AM
mutual
def Hz:Nat->LD->Int->Int->Option (Int)
 | 0,_,_,_=>none
 | n+1,l1,z3,z4=>
  AE l1 fun z5=>(if z3<z5 then (if (0:Int)<=z4 then It n l1 z3 z4 true else It n l1 z3 z4 false)else It n l1 z3 z4 false)
def It:Nat->LD->Int->Int->Bool->Option (Int)
 | 0,_,_,_,_=>none
 | n+1,l1,z3,z4,b6=>
  (if b6=true then Ap l1 z3 fun x7=>Bv x7 fun s8 z9 s10 l11=>bO1 (N5 n s8 z4) fun z12=>Ap l1 z3 fun x13=>Bv x13 fun s14 z15 s16 l17=>bO1 (XF n z15 s16 l17 z12) fun z18=>AJ (IntKind.wrap .i64 (z3+1)) fun z19=>Hz n l1 z19 z18 else some z4)
end
def lU (n:Nat) (l1:LD) (z2:Int):Option (Int):=
 Hz n l1 (0:Int) z2
noncomputable def X27:BX:=⟨27,Tryz.f27,[.p (.ext 0) 0,.q 4],[[.z]],⟨.tup [],[[.z]],[]⟩,Int,inferInstance,lU,[⟨6,[0,1,4],[.ext 0],32,[.p (.ext 0) 0,.q 4,.z],[[.z]],fun n l1 z3 z4=>Hz n l1 z3 z4⟩,
 ⟨49,[0,1,4,15],[.ext 0],384,[.p (.ext 0) 0,.q 4,.z,.b],[[.z]],fun n l1 z3 b6 z4=>It n l1 z3 z4 b6⟩]⟩
noncomputable def k27:Kz:=sg X27 [iZ,tX] Tryz.func27 (by kernel_rfl) (by kernel_rfl) (by kernel_rfl)
mutual
def FH:Nat->LD->Int->Int->Option (Int)
 | 0,_,_,_=>none
 | n+1,l1,z3,z4=>
  AE l1 fun z5=>(if z3<z5 then (if (0:Int)<=z4 then Iu n l1 z3 z4 true else Iu n l1 z3 z4 false)else Iu n l1 z3 z4 false)
def Iu:Nat->LD->Int->Int->Bool->Option (Int)
 | 0,_,_,_,_=>none
 | n+1,l1,z3,z4,b6=>
  (if b6=true then Ap l1 z3 fun x7=>BJ x7 fun z8 s9 s10 l11 z12 s13 l14 z15 s16 l17 l18 l19 l20 l21 z22=>bO1 (N5 n s9 z4) fun z23=>bO1 (N5 n s10 z23) fun z24=>bO1 (jA n l11 z24) fun z25=>bO1 (XF n z12 s13 l14 z25) fun z26=>bO1 (nJ n s16 l17 z26) fun z27=>H0 n l1 z3 l18 l19 l20 l21 (0:Int) z27 else some z4)
def H0:Nat->LD->Int->LD->LD->LD->LD->Int->Int->Option (Int)
 | 0,_,_,_,_,_,_,_,_=>none
 | n+1,l1,z3,l18,l19,l20,l21,z28,z29=>
  AE l18 fun z30=>(if z28<z30 then (if (0:Int)<=z29 then Iv n l1 z3 l18 l19 l20 l21 z28 z29 true else Iv n l1 z3 l18 l19 l20 l21 z28 z29 false)else Iv n l1 z3 l18 l19 l20 l21 z28 z29 false)
def Iv:Nat->LD->Int->LD->LD->LD->LD->Int->Int->Bool->Option (Int)
 | 0,_,_,_,_,_,_,_,_,_=>none
 | n+1,l1,z3,l18,l19,l20,l21,z28,z29,b31=>
  (if b31=true then Ap l18 z28 fun x32=>BD x32 fun z33 z34 s35 s36 s37 l38 l39 z40=>bO1 (Xe n z33 z34 s35 s36 s37 l38 l39 z40 z29) fun z41=>AJ (IntKind.wrap .i64 (z28+1)) fun z42=>H0 n l1 z3 l18 l19 l20 l21 z42 z41 else (if z29<(0:Int)then FI n l1 z3 l19 l20 l21 z29 true else FI n l1 z3 l19 l20 l21 z29 false))
def FI:Nat->LD->Int->LD->LD->LD->Int->Bool->Option (Int)
 | 0,_,_,_,_,_,_,_=>none
 | n+1,l1,z3,l19,l20,l21,z29,b43=>
  (if b43=true then some z29 else bO1 (cB n l19 z29) fun z44=>bO1 (cB n l20 z44) fun z45=>H3 n l1 z3 l21 (0:Int) z45)
def H3:Nat->LD->Int->LD->Int->Int->Option (Int)
 | 0,_,_,_,_,_=>none
 | n+1,l1,z3,l21,z46,z47=>
  AE l21 fun z48=>(if z46<z48 then (if (0:Int)<=z47 then Iw n l1 z3 l21 z46 z47 true else Iw n l1 z3 l21 z46 z47 false)else Iw n l1 z3 l21 z46 z47 false)
def Iw:Nat->LD->Int->LD->Int->Int->Bool->Option (Int)
 | 0,_,_,_,_,_,_=>none
 | n+1,l1,z3,l21,z46,z47,b49=>
  (if b49=true then Ap l21 z46 fun x50=>Bf x50 fun s51 s52 l53=>bO1 (N5 n s51 z47) fun z54=>Ap l21 z46 fun x55=>Bf x55 fun s56 s57 l58=>bO1 (N5 n s57 z54) fun z59=>Ap l21 z46 fun x60=>Bf x60 fun s61 s62 l63=>bO1 (cB n l63 z59) fun z64=>AJ (IntKind.wrap .i64 (z46+1)) fun z65=>H3 n l1 z3 l21 z65 z64 else AJ (IntKind.wrap .i64 (z3+1)) fun z66=>FH n l1 z66 z47)
def cB:Nat->LD->Int->Option (Int)
 | 0,_,_=>none
 | n+1,l1,z2=>
  FH n l1 (0:Int) z2
end
noncomputable def yE:BX:=⟨29,Tryz.f29,[.p (.ext 0) 0,.q 15],[[.z]],⟨.tup [],[[.z]],[]⟩,Int,inferInstance,cB,[⟨6,[0,1,4],[.ext 0],32,[.p (.ext 0) 0,.q 15,.z],[[.z]],fun n l1 z3 z4=>FH n l1 z3 z4⟩,
 ⟨49,[0,1,4,18],[.ext 0],384,[.p (.ext 0) 0,.q 15,.z,.b],[[.z]],fun n l1 z3 b6 z4=>Iu n l1 z3 z4 b6⟩,
 ⟨51706,[0,1,4,5,6],[.ext 0,.loc 512],1248,[.p (.ext 0) 0,.q 15,.z,.p (.loc 512) 0,.z],[[.z],[.y,.str,.str,.f 1,.y,.str,.q 3,.z,.str,.f 1,.q 8,.q 15,.q 15,.q 3,.z]],fun n l1 z3 z28 z29 _ _ _ _ _ _ _ _ _ _ l18 l19 l20 l21 _=>H0 n l1 z3 l18 l19 l20 l21 z28 z29⟩,
 ⟨413649,[0,1,4,5,6,56],[.ext 0,.loc 512],1632,[.p (.ext 0) 0,.q 15,.z,.p (.loc 512) 0,.z,.b],[[.z],[.y,.str,.str,.f 1,.y,.str,.q 3,.z,.str,.f 1,.q 8,.q 15,.q 15,.q 3,.z]],fun n l1 z3 z28 b31 z29 _ _ _ _ _ _ _ _ _ _ l18 l19 l20 l21 _=>Iv n l1 z3 l18 l19 l20 l21 z28 z29 b31⟩,
 ⟨51709,[0,1,4,5,6,70],[.ext 0,.loc 512],1792,[.p (.ext 0) 0,.q 15,.z,.p (.loc 512) 0,.z,.b],[[.z],[.y,.str,.str,.f 1,.y,.str,.q 3,.z,.str,.f 1,.q 8,.q 15,.q 15,.q 3,.z]],fun n l1 z3 _ b43 z29 _ _ _ _ _ _ _ _ _ _ _ l19 l20 l21 _=>FI n l1 z3 l19 l20 l21 z29 b43⟩,
 ⟨413694,[0,1,4,5,6,7],[.ext 0,.loc 512],2080,[.p (.ext 0) 0,.q 15,.z,.p (.loc 512) 0,.z,.z],[[.z],[.y,.str,.str,.f 1,.y,.str,.q 3,.z,.str,.f 1,.q 8,.q 15,.q 15,.q 3,.z]],fun n l1 z3 _ z46 z47 _ _ _ _ _ _ _ _ _ _ _ _ _ l21 _=>H3 n l1 z3 l21 z46 z47⟩,
 ⟨3309553,[0,1,4,5,6,7,90],[.ext 0,.loc 512],2464,[.p (.ext 0) 0,.q 15,.z,.p (.loc 512) 0,.z,.z,.b],[[.z],[.y,.str,.str,.f 1,.y,.str,.q 3,.z,.str,.f 1,.q 8,.q 15,.q 15,.q 3,.z]],fun n l1 z3 _ z46 b49 z47 _ _ _ _ _ _ _ _ _ _ _ _ _ l21 _=>Iw n l1 z3 l21 z46 z47 b49⟩]⟩
theorem K29:Cv Tryz.prog inv (OG [yE]):=gr [iZ,tX,xV,xS,xT] ⟨⟨Tryz.func29,by kernel_rfl,by kernel_rfl,by kernel_rfl⟩,trivial⟩
noncomputable def k29:Kz:=⟨yE.c,K29.1⟩
mutual
def NS:Nat->LD->Int->Int->Option (Bool)
 | 0,_,_,_=>none
 | n+1,l1,z2,z3=>
  AE l1 fun z4=>(if z2<z4 then (if (0:Int)<=z3 then OI n l1 z2 z3 true else OI n l1 z2 z3 false)else OI n l1 z2 z3 false)
def OI:Nat->LD->Int->Int->Bool->Option (Bool)
 | 0,_,_,_,_=>none
 | n+1,l1,z2,z3,b5=>
  (if b5=true then Ap l1 z2 fun x6=>BU x6 fun z7 s8 l9 z10 s11 l12 l13 z14 z15 s16 s17 s18 l19 l20 z21 z22=>bO1 (N5 n s8 z3) fun z23=>bO1 (lU n l9 z23) fun z24=>bO1 (XF n z10 s11 l12 z24) fun z25=>bO1 (cB n l13 z25) fun z26=>bO1 (Xe n z14 z15 s16 s17 s18 l19 l20 z21 z26) fun z27=>AJ (IntKind.wrap .i64 (z2+1)) fun z28=>NS n l1 z28 z27 else (if z3<(0:Int)then some true else some false))
end
def F8 (n:Nat) (l1:LD):Option (Bool):=
 NS n l1 (0:Int) (20000:Int)
noncomputable def X8:BX:=⟨8,Tryz.f8,[.agg [.q 16]],[],⟨.one (.b),[],[]⟩,Bool,inferInstance,F8,[⟨58,[1,2,3,4],[.loc 0,.loc 96],192,[.p (.loc 0) 0,.one (.cb false),.p (.loc 96) 0,.z],[[.q 16],[.z]],fun n z2 l1 z3=>NS n l1 z2 z3⟩,
 ⟨465,[1,2,3,4,19],[.loc 0,.loc 96],576,[.p (.loc 0) 0,.one (.cb false),.p (.loc 96) 0,.z,.b],[[.q 16],[.z]],fun n z2 b5 l1 z3=>OI n l1 z2 z3 b5⟩]⟩
noncomputable def k8:Kz:=sg X8 [iZ,k27,tX,k29,xV] Tryz.func8 (by kernel_rfl) (by kernel_rfl) (by kernel_rfl)
end Go.Proofs.YtjmofeakajdbiaaGreatDoor
end
set_option linter.unusedVariables false
noncomputable section
namespace Go.Proofs.YtjmofeakajdbiaaGreatDoor
open Go Go.AM
theorem uC {z:Int}(h1: -9223372036854775808≤z) (h2:z≤9223372036854775807):IntKind.i64.wrap z=z:=IntWalk.i64_in _ (by omega)
inductive OJ:List D→Prop where
 | mk {l:List D} (h:l.length≤4000) (hr:∀(a:Int) (s:ByteArray) (m:List D),D.agg [.int .u8 a,.str s,.list true 3 m]∈l→OJ m):OJ l
inductive MB:List D→Prop where
 | mk {l:List D} (h:l.length≤4000) (h5:∀(a0 a1:Int) (a2 a3 a4:ByteArray) (a5 a6:List D) (a7:Int),D.agg [.int .u8 a0,.int .i64 a1,.str a2,.str a3,.str a4,.list false 1 a5,.list true 8 a6,.int .i64 a7]∈l→a5.length≤4000) (h6:∀(a0 a1:Int) (a2 a3 a4:ByteArray) (a5 a6:List D) (a7:Int),D.agg [.int .u8 a0,.int .i64 a1,.str a2,.str a3,.str a4,.list false 1 a5,.list true 8 a6,.int .i64 a7]∈l→MB a6):MB l
inductive La:List D→Prop where
 | mk {l:List D} (h:l.length≤4000) (h3:∀(a0:Int) (a1 a2:ByteArray) (a3:List D) (a4:Int) (a5:ByteArray) (a6:List D) (a7:Int) (a8:ByteArray) (a9 a10 a11 a12 a13:List D) (a14:Int),D.agg [.int .u8 a0,.str a1,.str a2,.list false 1 a3,.int .u8 a4,.str a5,.list true 3 a6,.int .i64 a7,.str a8,.list false 1 a9,.list true 8 a10,.list true 15 a11,.list true 15 a12,.list true 3 a13,.int .i64 a14]∈l→a3.length≤4000∧OJ a6∧a9.length≤4000∧MB a10∧a13.length≤4000)
   (h11:∀(a0:Int) (a1 a2:ByteArray) (a3:List D) (a4:Int) (a5:ByteArray) (a6:List D) (a7:Int) (a8:ByteArray) (a9 a10 a11 a12 a13:List D) (a14:Int),D.agg [.int .u8 a0,.str a1,.str a2,.list false 1 a3,.int .u8 a4,.str a5,.list true 3 a6,.int .i64 a7,.str a8,.list false 1 a9,.list true 8 a10,.list true 15 a11,.list true 15 a12,.list true 3 a13,.int .i64 a14]∈l→La a11) (h12:∀(a0:Int) (a1 a2:ByteArray) (a3:List D) (a4:Int) (a5:ByteArray) (a6:List D) (a7:Int) (a8:ByteArray) (a9 a10 a11 a12 a13:List D) (a14:Int),D.agg [.int .u8 a0,.str a1,.str a2,.list false 1 a3,.int .u8 a4,.str a5,.list true 3 a6,.int .i64 a7,.str a8,.list false 1 a9,.list true 8 a10,.list true 15 a11,.list true 15 a12,.list true 3 a13,.int .i64 a14]∈l→La a12)
   (h13:∀(a0:Int) (a1 a2:ByteArray) (a3:List D) (a4:Int) (a5:ByteArray) (a6:List D) (a7:Int) (a8:ByteArray) (a9 a10 a11 a12 a13:List D) (a14:Int),D.agg [.int .u8 a0,.str a1,.str a2,.list false 1 a3,.int .u8 a4,.str a5,.list true 3 a6,.int .i64 a7,.str a8,.list false 1 a9,.list true 8 a10,.list true 15 a11,.list true 15 a12,.list true 3 a13,.int .i64 a14]∈l→∀(t1 t2:ByteArray) (m:List D),D.agg [.str t1,.str t2,.list true 15 m]∈a13→La m):La l
theorem FJ (s:ByteArray) (z:Int) (h1: -6≤z) (h2:z≤20000):∃r,Ev (fun n=>N5 n s z) r∧ -1≤r∧r≤20000∧(0≤r→r+5≤z):=by
 have sz:∀{γ:Type} (k:Int→Option γ),N3 s k=k (s.size:Int):=fun k=>rfl
 by_cases h3:z<5
 ·exact⟨-1,.succ (.of fun n=>by unfold N5;rw[if_pos h3,Il,if_pos rfl]),by omega,by omega,by omega⟩
 ·have e:IntKind.i64.wrap (z - 5)=z - 5:=uC (by omega) (by omega)
  by_cases h4:z - 5<(s.size:Int)
  ·exact⟨-1,.succ (.of fun n=>by unfold N5;rw[if_neg h3,sz];simp only[AJ];rw[e,if_pos h4,Il,if_pos rfl]),by omega,by omega,by omega⟩
  ·have e2:IntKind.i64.wrap (z - 5 - (s.size:Int))=z - 5 - (s.size:Int):=uC (by omega) (by omega)
   exact⟨z - 5 - (s.size:Int),.succ (.of fun n=>by unfold N5;rw[if_neg h3,sz];simp only[AJ];rw[e,if_neg h4,Il,if_neg Bool.false_ne_true];simp only[AJ];rw[sz,e,e2]),by omega,by omega,by omega⟩
theorem V4 {l:List D}(h:AD AI 9 l) (z:Int) (h1: -1≤z) (h2:z≤20000):∃r,Ev (fun n=>jA n l z) r∧ -6≤r∧r≤20000∧(0≤r→r≤z∧l.length≤4000):=by
 have main:∀i:Nat,i≤l.length→∀z,-6≤z→z≤20000→∃r,Ev (fun n=>GL n l (i:Int) z) r∧ -6≤r∧r≤20000∧(0≤r→r+5*((l.length:Int) - (i:Int))≤z):=by
  refine down l.length ?_ ?_
  ·intro z h1 h2
   refine⟨z,.succ (.succ (.of fun n=>?_)),by omega,by omega,by omega⟩
   rw[GL];simp only[AE];rw[if_neg (by omega),Ip,if_neg Bool.false_ne_true]
  ·intro i hi ih z h1 h2
   by_cases hz:(0:Int)≤z
   ·obtain⟨x,hx,_,hr⟩:=h.get hi
    obtain⟨s,rfl,_⟩:=Z7 hr
    obtain⟨z1,g1,g2,g3,g4⟩:=FJ s z (by omega) h2
    obtain⟨r,k1,k2,k3,k4⟩:=ih z1 (by omega) (by omega)
    refine⟨r,.succ (.succ (Ev.congr (A:=fun n=>bO1 (N5 n s z) fun z10=>GL n l ((i+1:Nat):Int) z10) (Ev.bO1 g1 k1) fun n=>?_)),k2,k3,by omega⟩
    rw[GL];simp only[AE];rw[if_pos (by omega),if_pos hz,Ip,if_pos rfl,AH hx]
    simp only[Bj,AJ,AG hi h.1]
   ·refine⟨z,.succ (.succ (.of fun n=>?_)),by omega,by omega,by omega⟩
    rw[GL];simp only[AE];rw[if_pos (by omega),if_neg hz,Ip,if_neg Bool.false_ne_true]
 obtain⟨r,h,a,b,c⟩:=main 0 (Nat.zero_le _) (z - 5) (by omega) (by omega)
 exact⟨r,h.congr fun n=>by unfold jA;simp only[AJ,uC (show -9223372036854775808≤z - 5 by omega) (by omega)];rfl,a,b,fun hr=>by have:=c hr;omega⟩
theorem V5 {l:List D}(h:AD AI 9 l) (s:ByteArray) (z:Int) (h1: -6≤z) (h2:z≤20000):∃r,Ev (fun n=>nJ n s l z) r∧ -6≤r∧r≤20000∧(0≤r→r+5≤z∧l.length≤4000):=by
 obtain⟨y,g1,g2,g3,g4⟩:=FJ s z h1 h2
 obtain⟨r,k1,k2,k3,k4⟩:=V4 h y g2 g3
 exact⟨r,Ev.bO1 g1 (Ev.bO1 k1 .ret),k2,k3,fun hr=>by have:=k4 hr;omega⟩
theorem Q6 (l:List D):AD AI 33 l→∀z1 s2 z,-6≤z→z≤20000→∃r,Ev (fun n=>XF n z1 s2 l z) r∧ -6≤r∧r≤20000∧(0≤r→r+5≤z∧OJ l):=by
 refine Ba (P:=fun l=>AD AI 33 l→∀z1 s2 z,-6≤z→z≤20000→∃r,Ev (fun n=>XF n z1 s2 l z) r∧ -6≤r∧r≤20000∧(0≤r→r+5≤z∧OJ l)) (fun l ih h=>?_) l
 have loop:∀i:Nat,i≤l.length→∀z,-6≤z→z≤20000→∃r,Ev (fun n=>GK n l (i:Int) z) r∧ -6≤r∧r≤20000∧(0≤r→r+5*((l.length:Int) - (i:Int))≤z∧∀(j:Nat) (a:Int) (s:ByteArray) (m:List D),i≤j→l[j]?=some (.agg [.int .u8 a,.str s,.list true 3 m])→OJ m):=by
  refine down l.length ?_ ?_
  ·intro z h1 h2
   refine⟨z,.succ (.succ (.of fun n=>?_)),h1,h2,fun _=>⟨by omega,fun j a s m hj hx=>absurd (List.getElem?_eq_some_iff.1 hx).1 (by omega)⟩⟩
   rw[GK];simp only[AE];rw[if_neg (by omega),Im,if_neg Bool.false_ne_true]
  ·intro i hi ihl z h1 h2
   by_cases hz:(0:Int)≤z
   ·obtain⟨x,hx,hm,hr⟩:=h.get hi
    obtain⟨a,s,m,rfl,_,hs,hm'⟩:=U4 hr
    obtain⟨y,g1,g2,g3,g4⟩:=ih m (Af (ag:=true) (sz:=3) hm (by simp)) hm' a s z h1 h2
    obtain⟨r,k1,k2,k3,k4⟩:=ihl y g2 g3
    refine⟨r,.succ (.succ (Ev.congr (A:=fun n=>bO1 (XF n a s m z) fun z10=>GK n l ((i+1:Nat):Int) z10) (Ev.bO1 g1 k1) fun n=>?_)),k2,k3,fun hr0=>?_⟩
    ·rw[GK];simp only[AE];rw[if_pos (by omega),if_pos hz,Im,if_pos rfl,AH hx]
     simp only[Cf,AJ,AG hi h.1]
    ·obtain⟨x1,x2⟩:=k4 hr0
     obtain⟨x3,x4⟩:=g4 (by omega)
     refine⟨by omega,fun j a' s' m' hj hx'=>?_⟩
     by_cases e:j=i
     ·subst e;rw[hx]at hx';cases hx';exact x4
     ·exact x2 j a' s' m' (by omega) hx'
   ·refine⟨z,.succ (.succ (.of fun n=>?_)),h1,h2,by omega⟩
    rw[GK];simp only[AE];rw[if_pos (by omega),if_neg hz,Im,if_neg Bool.false_ne_true]
 intro z1 s2 z h1 h2
 obtain⟨y,g1,g2,g3,g4⟩:=FJ s2 z h1 h2
 obtain⟨r,k1,k2,k3,k4⟩:=loop 0 (Nat.zero_le _) y (by omega) g3
 refine⟨r,.succ ((Ev.bO1 g1 k1).congr fun n=>by rw[XF];rfl),k2,k3,fun hr0=>?_⟩
 obtain⟨x1,x2⟩:=k4 hr0
 have:=g4 (by omega)
 refine⟨by omega,.mk (by omega) fun a s m hm=>?_⟩
 obtain⟨j,hj⟩:=List.getElem?_of_mem hm
 exact x2 j a s m (Nat.zero_le _) hj
theorem S1 (l:List D):AD AI 39 l→∀z1 z2 s3 s4 s5 l6 z8 z,AD AI 9 l6→ -6≤z→z≤20000→∃r,Ev (fun n=>Xe n z1 z2 s3 s4 s5 l6 l z8 z) r∧ -6≤r∧r≤20000∧(0≤r→r+5≤z∧l6.length≤4000∧MB l):=by
 refine Ba (P:=fun l=>AD AI 39 l→∀z1 z2 s3 s4 s5 l6 z8 z,AD AI 9 l6→ -6≤z→z≤20000→∃r,Ev (fun n=>Xe n z1 z2 s3 s4 s5 l6 l z8 z) r∧ -6≤r∧r≤20000∧(0≤r→r+5≤z∧l6.length≤4000∧MB l)) (fun l ih h=>?_) l
 have loop:∀i:Nat,i≤l.length→∀z,-6≤z→z≤20000→∃r,Ev (fun n=>GM n l (i:Int) z) r∧ -6≤r∧r≤20000∧(0≤r→r+5*((l.length:Int) - (i:Int))≤z∧∀(j:Nat) (a0 a1:Int) (a2 a3 a4:ByteArray) (a5 a6:List D) (a7:Int),i≤j→l[j]?=some (.agg [.int .u8 a0,.int .i64 a1,.str a2,.str a3,.str a4,.list false 1 a5,.list true 8 a6,.int .i64 a7])→a5.length≤4000∧MB a6):=by
  refine down l.length ?_ ?_
  ·intro z h1 h2
   refine⟨z,.succ (.succ (.of fun n=>?_)),h1,h2,fun _=>⟨by omega,fun j _ _ _ _ _ _ _ _ hj hx=>absurd (List.getElem?_eq_some_iff.1 hx).1 (by omega)⟩⟩
   rw[GM];simp only[AE];rw[if_neg (by omega),Iq,if_neg Bool.false_ne_true]
  ·intro i hi ihl z h1 h2
   by_cases hz:(0:Int)≤z
   ·obtain⟨x,hx,hm,hr⟩:=h.get hi
    obtain⟨b0,b1,b2,b3,b4,b5,b6,b7,rfl,w0,_,w2,w3,w4,w5,w6,_⟩:=Jz hr
    obtain⟨y,g1,g2,g3,g4⟩:=ih b6 (Af (ag:=true) (sz:=8) hm (by simp)) w6 b0 b1 b2 b3 b4 b5 b7 z w5 h1 h2
    obtain⟨r,k1,k2,k3,k4⟩:=ihl y g2 g3
    refine⟨r,.succ (.succ (Ev.congr (A:=fun n=>bO1 (Xe n b0 b1 b2 b3 b4 b5 b6 b7 z) fun z10=>GM n l ((i+1:Nat):Int) z10) (Ev.bO1 g1 k1) fun n=>?_)),k2,k3,fun hr0=>?_⟩
    ·rw[GM];simp only[AE];rw[if_pos (by omega),if_pos hz,Iq,if_pos rfl,AH hx]
     simp only[BD,AJ,AG hi h.1]
    ·obtain⟨x1,x2⟩:=k4 hr0
     obtain⟨x3,x4⟩:=g4 (by omega)
     refine⟨by omega,fun j _ _ _ _ _ _ _ _ hj hx'=>?_⟩
     by_cases e:j=i
     ·subst e;rw[hx]at hx';cases hx';exact x4
     ·exact x2 j _ _ _ _ _ _ _ _ (by omega) hx'
   ·refine⟨z,.succ (.succ (.of fun n=>?_)),h1,h2,by omega⟩
    rw[GM];simp only[AE];rw[if_pos (by omega),if_neg hz,Iq,if_neg Bool.false_ne_true]
 intro z1 z2 s3 s4 s5 l6 z8 z h6 h1 h2
 obtain⟨y1,g1,g2,g3,g4⟩:=FJ s3 z h1 h2
 obtain⟨y2,j1,j2,j3,j4⟩:=FJ s4 y1 (by omega) g3
 obtain⟨y3,i1,i2,i3,i4⟩:=V5 h6 s5 y2 (by omega) j3
 obtain⟨r,k1,k2,k3,k4⟩:=loop 0 (Nat.zero_le _) y3 i2 i3
 refine⟨r,.succ ((Ev.bO1 g1 (Ev.bO1 j1 (Ev.bO1 i1 k1))).congr fun n=>by rw[Xe]),k2,k3,fun hr0=>?_⟩
 obtain⟨x1,x2⟩:=k4 hr0
 obtain⟨x3,x4⟩:=i4 (by omega)
 have:=j4 (by omega)
 have:=g4 (by omega)
 refine⟨by omega,x4,.mk (by omega) (fun a0 a1 a2 a3 a4 a5 a6 a7 hm=>?_) (fun a0 a1 a2 a3 a4 a5 a6 a7 hm=>?_)⟩
 ·obtain⟨j,hj⟩:=List.getElem?_of_mem hm
  exact (x2 j _ _ _ _ _ _ _ _ (Nat.zero_le _) hj).1
 ·obtain⟨j,hj⟩:=List.getElem?_of_mem hm
  exact (x2 j _ _ _ _ _ _ _ _ (Nat.zero_le _) hj).2
end Go.Proofs.YtjmofeakajdbiaaGreatDoor
end
set_option linter.unusedVariables false
noncomputable section
namespace Go.Proofs.YtjmofeakajdbiaaGreatDoor
open Go Go.AM
def cC (m:List D):Prop:=∀z:Int,-6≤z→z≤20000→∃r,Ev (fun n=>cB n m z) r∧ -6≤r∧r≤20000∧(0≤r→r≤z∧La m)
theorem cD {l18:List D}(h:AD AI 39 l18) (l1:List D) (z3:Int) (l19 l20 l21:List D):∀i:Nat,i≤l18.length→∀z:Int,-6≤z→z≤20000→∃r,-6≤r∧r≤20000∧(0≤r→r+5*((l18.length:Int) - (i:Int))≤z∧∀(j:Nat) (a0 a1:Int) (a2 a3 a4:ByteArray) (a5 a6:List D) (a7:Int),i≤j→l18[j]?=some (.agg [.int .u8 a0,.int .i64 a1,.str a2,.str a3,.str a4,.list false 1 a5,.list true 8 a6,.int .i64 a7])→a5.length≤4000∧MB a6)∧
  ∀R,Ev (fun n=>if r<(0:Int)then FI n l1 z3 l19 l20 l21 r true else FI n l1 z3 l19 l20 l21 r false) R→Ev (fun n=>H0 n l1 z3 l18 l19 l20 l21 (i:Int) z) R:=by
 refine down l18.length ?_ ?_
 ·intro z h1 h2
  refine⟨z,h1,h2,fun _=>⟨by omega,fun j _ _ _ _ _ _ _ _ hj hx=>absurd (List.getElem?_eq_some_iff.1 hx).1 (by omega)⟩,fun R hR=>.succ ?_⟩
  simp only[H0,AE,Int.lt_irrefl,if_false]
  exact .succ (by simp only[Iv,Bool.false_eq_true,if_false];exact hR)
 ·intro i hi ih z h1 h2
  by_cases c:(0:Int)≤z
  ·obtain⟨x,hx,hm,hr⟩:=h.get hi
   obtain⟨b0,b1,b2,b3,b4,b5,b6,b7,rfl,w0,w1,w2,w3,w4,w5,w6,w7⟩:=Jz hr
   obtain⟨y,y1,y2,y3,y4⟩:=S1 b6 w6 b0 b1 b2 b3 b4 b5 b7 z w5 h1 h2
   obtain⟨r,r1,r2,r3,r4⟩:=ih y y2 y3
   refine⟨r,r1,r2,fun hr0=>?_,fun R hR=>.succ ?_⟩
   ·obtain⟨x1,x2⟩:=r3 hr0
    obtain⟨x3,x4⟩:=y4 (by omega)
    refine⟨by omega,fun j _ _ _ _ _ _ _ _ hj hx'=>?_⟩
    by_cases e:j=i
    ·subst e;rw[hx]at hx';cases hx';exact x4
    ·exact x2 j _ _ _ _ _ _ _ _ (by omega) hx'
   ·simp only[H0,AE,if_pos (Cn hi),if_pos c]
    refine .succ ?_
    simp only[Iv,if_true,AH hx,BD]
    refine Ev.bO1 y1 ?_
    simp only[AJ,AG hi h.1]
    exact r4 R hR
  ·refine⟨z,h1,h2,fun h=>absurd h c,fun R hR=>.succ ?_⟩
   simp only[H0,AE,if_pos (Cn hi),if_neg c]
   exact .succ (by simp only[Iv,Bool.false_eq_true,if_false];exact hR)
theorem ZI {l21:List D}(h:AD AI 95 l21) (hin:∀(s1 s2:ByteArray) (m:List D),.agg [.str s1,.str s2,.list true 15 m]∈l21→cC m) (l1:List D) (z3:Int):∀i:Nat,i≤l21.length→∀z:Int,-6≤z→z≤20000→∃r,-6≤r∧r≤20000∧
  (0≤r→r+5*((l21.length:Int) - (i:Int))≤z∧∀j s1 s2 m,i≤j→l21[j]?=some (.agg [.str s1,.str s2,.list true 15 m])→La m)∧∀R,Ev (fun n=>FH n l1 (IntKind.wrap .i64 (z3+1)) r) R→Ev (fun n=>H3 n l1 z3 l21 (i:Int) z) R:=by
 refine down l21.length ?_ ?_
 ·intro z h1 h2
  refine⟨z,h1,h2,fun _=>⟨by omega,fun j s1 s2 m hj hx=>absurd (List.getElem?_eq_some_iff.1 hx).1 (by omega)⟩,fun R hR=>.succ ?_⟩
  simp only[H3,AE,Int.lt_irrefl,if_false]
  exact .succ (by simp only[Iw,Bool.false_eq_true,if_false,AJ];exact hR)
 ·intro i hi ih z h1 h2
  by_cases c:(0:Int)≤z
  ·obtain⟨x,hx,hm,hr⟩:=h.get hi
   obtain⟨t1,t2,m,rfl,w0,w1,w2⟩:=J0 hr
   obtain⟨a,a1,a2,a3,a4⟩:=FJ t1 z h1 h2
   obtain⟨b,b1,b2,b3,b4⟩:=FJ t2 a (by omega) a3
   obtain⟨y,y1,y2,y3,y4⟩:=hin t1 t2 m hm b (by omega) b3
   obtain⟨r,r1,r2,r3,r4⟩:=ih y y2 y3
   refine⟨r,r1,r2,fun hr0=>?_,fun R hR=>.succ ?_⟩
   ·obtain⟨r5,r6⟩:=r3 hr0
    obtain⟨y5,y6⟩:=y4 (by omega)
    have:=b4 (by omega)
    have:=a4 (by omega)
    refine⟨by omega,fun j s1 s2 m' hj hx'=>?_⟩
    by_cases e:j=i
    ·subst e;rw[hx]at hx';cases hx';exact y6
    ·exact r6 j s1 s2 m' (by omega) hx'
   ·simp only[H3,AE,if_pos (Cn hi),if_pos c]
    refine .succ ?_
    simp only[Iw,if_true,AH hx,Bf]
    refine Ev.bO1 a1 (Ev.bO1 b1 (Ev.bO1 y1 ?_))
    simp only[AJ,AG hi h.1]
    exact r4 R hR
  ·refine⟨z,h1,h2,fun h=>absurd h c,fun R hR=>.succ ?_⟩
   simp only[H3,AE,if_pos (Cn hi),if_neg c]
   exact .succ (by simp only[Iw,Bool.false_eq_true,if_false,AJ];exact hR)
structure Sh (a3 a6 a9 a10 a11 a12 a13:List D):Prop where
 n:a3.length≤4000
 t:OJ a6
 p:a9.length≤4000
 e:MB a10
 b:La a11
 o:La a12
 k:a13.length≤4000
 m:∀(t1 t2:ByteArray) (m:List D),D.agg [.str t1,.str t2,.list true 15 m]∈a13→La m
theorem cE (l:List D):AD AI 50 l→cC l:=by
 refine Ba (P:=fun l=>AD AI 50 l→cC l) (fun l ih h=>?_) l
 have loop:∀i:Nat,i≤l.length→∀z:Int,-6≤z→z≤20000→∃r,Ev (fun n=>FH n l (i:Int) z) r∧ -6≤r∧r≤20000∧(0≤r→r+5*((l.length:Int) - (i:Int))≤z∧∀(j:Nat) (a0:Int) (a1 a2:ByteArray) (a3:List D) (a4:Int) (a5:ByteArray) (a6:List D) (a7:Int) (a8:ByteArray) (a9 a10 a11 a12 a13:List D) (a14:Int),i≤j→l[j]?=some (.agg [.int .u8 a0,.str a1,.str a2,.list false 1 a3,.int .u8 a4,.str a5,.list true 3 a6,.int .i64 a7,.str a8,.list false 1 a9,.list true 8 a10,.list true 15 a11,.list true 15 a12,.list true 3 a13,.int .i64 a14])→Sh a3 a6 a9 a10 a11 a12 a13):=by
  refine down l.length ?_ ?_
  ·intro z h1 h2
   refine⟨z,.succ ?_,h1,h2,fun _=>⟨by omega,fun j _ _ _ _ _ _ _ _ _ _ _ _ _ _ _ hj hx=>absurd (List.getElem?_eq_some_iff.1 hx).1 (by omega)⟩⟩
   simp only[FH,AE,Int.lt_irrefl,if_false]
   exact .succ (by simp only[Iu,Bool.false_eq_true,if_false];exact .ret)
  ·intro i hi ihl z h1 h2
   by_cases c:(0:Int)≤z
   ·obtain⟨x,hx,hm,hr⟩:=h.get hi
    obtain⟨a0,a1,a2,a3,a4,a5,a6,a7,a8,a9,a10,a11,a12,a13,a14,rfl,w0,w1,w2,w3,w4,w5,w6,w7,w8,w9,w10,w11,w12,w13,w14⟩:=Hx hr
    obtain⟨p1,p2,p3,p4,p5⟩:=FJ a1 z h1 h2
    obtain⟨q1,q2,q3,q4,q5⟩:=FJ a2 p1 (by omega) p4
    obtain⟨t1,t2,t3,t4,t5⟩:=V4 w3 q1 (by omega) q4
    obtain⟨u1,u2,u3,u4,u5⟩:=Q6 a6 w6 a4 a5 t1 t3 t4
    obtain⟨v1,v2,v3,v4,v5⟩:=V5 w9 a8 u1 u3 u4
    obtain⟨e1,e2,e3,e4,e5⟩:=cD w10 l (i:Int) a11 a12 a13 0 (Nat.zero_le _) v1 v3 v4
    have pre:∀R,Ev (fun n=>if e1<(0:Int)then FI n l (i:Int) a11 a12 a13 e1 true else FI n l (i:Int) a11 a12 a13 e1 false) R→Ev (fun n=>FH n l (i:Int) z) R:=by
     intro R hR
     refine .succ ?_
     simp only[FH,AE,if_pos (Cn hi),if_pos c]
     refine .succ ?_
     simp only[Iu,if_true,AH hx,BJ]
     exact Ev.bO1 p2 (Ev.bO1 q2 (Ev.bO1 t2 (Ev.bO1 u2 (Ev.bO1 v2 (e5 R hR)))))
    by_cases ce:e1<0
    ·refine⟨e1,pre _ ?_,e2,e3,fun h=>absurd h (by omega)⟩
     simp only[if_pos ce]
     exact .succ (by simp only[FI,if_true];exact .ret)
    ·have s11:=ih a11 (Af (ag:=true) (sz:=15) hm (by simp)) w11
     have s12:=ih a12 (Af (ag:=true) (sz:=15) hm (by simp)) w12
     have s13:∀(s1 s2:ByteArray) (m:List D),.agg [.str s1,.str s2,.list true 15 m]∈a13→cC m:=fun s1 s2 m hm2=>ih m (Nat.lt_trans (Af (ag:=true) (sz:=15) hm2 (by simp)) (Af (ag:=true) (sz:=3) hm (by simp))) (by obtain⟨b0,b1,b2,e,_,_,w⟩:=J0 (w13.2 _ hm2);cases e;exact w)
     obtain⟨f1,f2,f3,f4,f5⟩:=s11 e1 e2 e3
     obtain⟨g1,g2,g3,g4,g5⟩:=s12 f1 f3 f4
     obtain⟨k1,k2,k3,k4,k5⟩:=ZI w13 s13 l (i:Int) 0 (Nat.zero_le _) g1 g3 g4
     obtain⟨r,r1,r2,r3,r4⟩:=ihl k1 k2 k3
     refine⟨r,pre _ ?_,r2,r3,fun hr0=>?_⟩
     ·simp only[if_neg ce]
      refine .succ ?_
      simp only[FI,Bool.false_eq_true,if_false]
      refine Ev.bO1 f2 (Ev.bO1 g2 (k5 _ ?_))
      rw[AG hi h.1]
      exact r1
     ·obtain⟨x1,x2⟩:=r4 hr0
      obtain⟨x3,x4⟩:=k4 (by omega)
      obtain⟨x5,x6⟩:=g5 (by omega)
      obtain⟨x7,x8⟩:=f5 (by omega)
      obtain⟨x9,x10⟩:=e4 (by omega)
      obtain⟨y1,y1'⟩:=v5 (by omega)
      obtain⟨y2,y2'⟩:=u5 (by omega)
      obtain⟨y3,y3'⟩:=t5 (by omega)
      have y4:=q5 (by omega)
      have y5:=p5 (by omega)
      refine⟨by omega,fun j _ _ _ _ _ _ _ _ _ _ _ _ _ _ _ hj hx'=>?_⟩
      by_cases e:j=i
      ·subst e
       rw[hx]at hx'
       cases hx'
       refine⟨y3',y2',y1',.mk (by omega) (fun b0 b1 b2 b3 b4 b5 b6 b7 hm=>?_) (fun b0 b1 b2 b3 b4 b5 b6 b7 hm=>?_),x8,x6,by omega,fun s1 s2 m hm2=>?_⟩
       ·obtain⟨j,hj⟩:=List.getElem?_of_mem hm
        exact (x10 j _ _ _ _ _ _ _ _ (Nat.zero_le _) hj).1
       ·obtain⟨j,hj⟩:=List.getElem?_of_mem hm
        exact (x10 j _ _ _ _ _ _ _ _ (Nat.zero_le _) hj).2
       ·obtain⟨j,hj⟩:=List.getElem?_of_mem hm2
        exact x4 j s1 s2 m (Nat.zero_le _) hj
      ·exact x2 j _ _ _ _ _ _ _ _ _ _ _ _ _ _ _ (by omega) hx'
   ·refine⟨z,.succ ?_,h1,h2,fun h=>absurd h c⟩
    simp only[FH,AE,if_pos (Cn hi),if_neg c]
    exact .succ (by simp only[Iu,Bool.false_eq_true,if_false];exact .ret)
 intro z h1 h2
 obtain⟨r,r1,r2,r3,r4⟩:=loop 0 (Nat.zero_le _) z h1 h2
 refine⟨r,.succ (by simp only[cB];exact r1),r2,r3,fun hr=>?_⟩
 obtain⟨x1,x2⟩:=r4 hr
 have get:∀(a0:Int) (a1 a2:ByteArray) (a3:List D) (a4:Int) (a5:ByteArray) (a6:List D) (a7:Int) (a8:ByteArray) (a9 a10 a11 a12 a13:List D) (a14:Int),D.agg [.int .u8 a0,.str a1,.str a2,.list false 1 a3,.int .u8 a4,.str a5,.list true 3 a6,.int .i64 a7,.str a8,.list false 1 a9,.list true 8 a10,.list true 15 a11,.list true 15 a12,.list true 3 a13,.int .i64 a14]∈l→Sh a3 a6 a9 a10 a11 a12 a13:=fun _ _ _ _ _ _ _ _ _ _ _ _ _ _ _ hm=>by
  obtain⟨j,hj⟩:=List.getElem?_of_mem hm
  exact x2 j _ _ _ _ _ _ _ _ _ _ _ _ _ _ _ (Nat.zero_le _) hj
 refine⟨by omega,.mk (by omega) (fun _ _ _ _ _ _ _ _ _ _ _ _ _ _ _ hm=>?_) (fun _ _ _ _ _ _ _ _ _ _ _ _ _ _ _ hm=>(get _ _ _ _ _ _ _ _ _ _ _ _ _ _ _ hm).b) (fun _ _ _ _ _ _ _ _ _ _ _ _ _ _ _ hm=>(get _ _ _ _ _ _ _ _ _ _ _ _ _ _ _ hm).o) (fun _ _ _ _ _ _ _ _ _ _ _ _ _ _ _ hm=>(get _ _ _ _ _ _ _ _ _ _ _ _ _ _ _ hm).m)⟩
 have g:=get _ _ _ _ _ _ _ _ _ _ _ _ _ _ _ hm
 exact⟨g.n,g.t,g.p,g.e,g.k⟩
theorem La.sh {l:List D}(h:La l) {a0:Int}{a1 a2:ByteArray}{a3:List D}{a4:Int}{a5:ByteArray}{a6:List D}{a7:Int}{a8:ByteArray}{a9 a10 a11 a12 a13:List D}{a14:Int}(hm:D.agg [.int .u8 a0,.str a1,.str a2,.list false 1 a3,.int .u8 a4,.str a5,.list true 3 a6,.int .i64 a7,.str a8,.list false 1 a9,.list true 8 a10,.list true 15 a11,.list true 15 a12,.list true 3 a13,.int .i64 a14]∈l):Sh a3 a6 a9 a10 a11 a12 a13:=by
 cases h with
 | mk h h3 h11 h12 h13=>
  obtain⟨x1,x2,x3,x4,x5⟩:=h3 _ _ _ _ _ _ _ _ _ _ _ _ _ _ _ hm
  exact⟨x1,x2,x3,x4,h11 _ _ _ _ _ _ _ _ _ _ _ _ _ _ _ hm,h12 _ _ _ _ _ _ _ _ _ _ _ _ _ _ _ hm,x5,h13 _ _ _ _ _ _ _ _ _ _ _ _ _ _ _ hm⟩
theorem La.len {l:List D}(h:La l):l.length≤4000:=by cases h;assumption
theorem MB.len {l:List D}(h:MB l):l.length≤4000:=by cases h;assumption
theorem OJ.len {l:List D}(h:OJ l):l.length≤4000:=by cases h;assumption
theorem OJ.row {l:List D}(h:OJ l) {a:Int}{s:ByteArray}{m:List D}(hm:D.agg [.int .u8 a,.str s,.list true 3 m]∈l):OJ m:=by
 cases h with
 | mk h hr=>exact hr _ _ _ hm
theorem MB.row {l:List D}(h:MB l) {a0 a1:Int}{a2 a3 a4:ByteArray}{a5 a6:List D}{a7:Int}(hm:D.agg [.int .u8 a0,.int .i64 a1,.str a2,.str a3,.str a4,.list false 1 a5,.list true 8 a6,.int .i64 a7]∈l):a5.length≤4000∧MB a6:=by
 cases h with
 | mk h h5 h6=>exact⟨h5 _ _ _ _ _ _ _ _ hm,h6 _ _ _ _ _ _ _ _ hm⟩
end Go.Proofs.YtjmofeakajdbiaaGreatDoor
end
set_option linter.unusedVariables false
noncomputable section
namespace Go.Proofs.YtjmofeakajdbiaaGreatDoor
open Go Go.AM
inductive Gc:List D→List D→Prop where
 | nil:Gc [] []
 | cons {a0 a1:Int} {a2 a3 a4:ByteArray} {a5 a6 m:List D} {a7:Int} {l r:List D}:Gc a6 m→Gc l r→Gc (.agg [.int .u8 a0,.int .i64 a1,.str a2,.str a3,.str a4,.list false 1 a5,.list true 8 a6,.int .i64 a7]::l) (.agg [.int .u8 a0,.int .i64 a1,.str a2,.str a3,.str a4,.list false 1 a5,.list true 8 m,.int .i64 0]::r)
mutual
inductive Fo:List D→List D→Prop where
 | nil:Fo [] []
 | cons {a0:Int} {a1 a2:ByteArray} {a3:List D} {a4:Int} {a5:ByteArray} {a6:List D} {a7:Int} {a8:ByteArray} {a9 a10 a11 a12 a13 e u v k:List D} {a14:Int} {l r:List D}:Gc a10 e→Fo a11 u→Fo a12 v→OL a13 k→Fo l r→Fo (.agg [.int .u8 a0,.str a1,.str a2,.list false 1 a3,.int .u8 a4,.str a5,.list true 3 a6,.int .i64 a7,.str a8,.list false 1 a9,.list true 8 a10,.list true 15 a11,.list true 15 a12,.list true 3 a13,.int .i64 a14]::l) (.agg [.int .u8 a0,.str a1,.str a2,.list false 1 a3,.int .u8 a4,.str a5,.list true 3 a6,.int .i64 a7,.str a8,.list false 1 a9,.list true 8 e,.list true 15 u,.list true 15 v,.list true 3 k,.int .i64 0]::r)
inductive OL:List D→List D→Prop where
 | nil:OL [] []
 | cons {t1 t2:ByteArray} {m m' l r:List D}:Fo m m'→OL l r→OL (.agg [.str t1,.str t2,.list true 15 m]::l) (.agg [.str t1,.str t2,.list true 15 m']::r)
end
inductive Q7:List D→List D→Prop where
 | nil:Q7 [] []
 | cons {a0:Int} {a1:ByteArray} {a2:List D} {a3:Int} {a4:ByteArray} {a5 a6:List D} {a7 a8:Int} {a9 a10 a11:ByteArray} {a12 a13 u e:List D} {a14 a15:Int} {l r:List D}:Fo a6 u→Gc a13 e→Q7 l r→Q7 (.agg [.int .u8 a0,.str a1,.list true 4 a2,.int .u8 a3,.str a4,.list true 3 a5,.list true 15 a6,.int .u8 a7,.int .i64 a8,.str a9,.str a10,.str a11,.list false 1 a12,.list true 8 a13,.int .i64 a14,.int .i64 a15]::l) (.agg [.int .u8 a0,.str a1,.list true 4 a2,.int .u8 a3,.str a4,.list true 3 a5,.list true 15 u,.int .u8 a7,.int .i64 a8,.str a9,.str a10,.str a11,.list false 1 a12,.list true 8 e,.int .i64 0,.int .i64 0]::r)
theorem J1 {R:List D→List D→Prop}{Q:D→D→Prop}(h0:R [] []) (hc:∀x y l r,Q x y→R l r→R (x::l) (y::r)):∀{l r:List D},r.length=l.length→(∀(j:Nat) (x:D),l[j]?=some x→∃y,r[j]?=some y∧Q x y)→R l r
 | [],[],_,_=>h0
 | [],_::_,h,_=>by simp at h
 | _::_,[],h,_=>by simp at h
 | x::l,y::r,h,hq=>by
  obtain⟨y',h1,h2⟩:=hq 0 x rfl
  cases h1
  exact hc _ _ _ _ h2 (J1 h0 hc (by simpa using h) fun j z hz=>hq (j+1) z (by simpa using hz))
theorem Gc.len {l r:List D}(h:Gc l r):r.length=l.length:=by
 induction h with
 | nil=>rfl
 | cons _ _ _ ih=>simp[ih]
theorem Gc.get {l r:List D}(h:Gc l r):∀{i:Nat}{x:D},l[i]?=some x→∃(a0 a1:Int) (a2 a3 a4:ByteArray) (a5 a6 m:List D) (a7:Int),x= .agg [.int .u8 a0,.int .i64 a1,.str a2,.str a3,.str a4,.list false 1 a5,.list true 8 a6,.int .i64 a7]∧r[i]?=some (.agg [.int .u8 a0,.int .i64 a1,.str a2,.str a3,.str a4,.list false 1 a5,.list true 8 m,.int .i64 0])∧Gc a6 m:=by
 induction h with
 | nil=>intro i x h;simp at h
 | cons h1 h2 _ ih=>
  intro i x h
  cases i with
  | zero=>simp at h;exact⟨_,_,_,_,_,_,_,_,_,h.symm,rfl,h1⟩
  | succ i=>exact ih (by simpa using h)
theorem Fo.len:∀{l r:List D},Fo l r→r.length=l.length
 | _,_,.nil=>rfl
 | _,_,.cons _ _ _ _ h=>by simp[h.len]
theorem OL.len:∀{l r:List D},OL l r→r.length=l.length
 | _,_,.nil=>rfl
 | _,_,.cons _ h=>by simp[h.len]
theorem Q7.len:∀{l r:List D},Q7 l r→r.length=l.length
 | _,_,.nil=>rfl
 | _,_,.cons _ _ h=>by simp[h.len]
theorem Fo.get:∀{l r:List D},Fo l r→∀{i:Nat}{x:D},l[i]?=some x→∃(a0:Int) (a1 a2:ByteArray) (a3:List D) (a4:Int) (a5:ByteArray) (a6:List D) (a7:Int) (a8:ByteArray) (a9 a10 a11 a12 a13 e u v k:List D) (a14:Int),x= .agg [.int .u8 a0,.str a1,.str a2,.list false 1 a3,.int .u8 a4,.str a5,.list true 3 a6,.int .i64 a7,.str a8,.list false 1 a9,.list true 8 a10,.list true 15 a11,.list true 15 a12,.list true 3 a13,.int .i64 a14]∧r[i]?=some (.agg [.int .u8 a0,.str a1,.str a2,.list false 1 a3,.int .u8 a4,.str a5,.list true 3 a6,.int .i64 a7,.str a8,.list false 1 a9,.list true 8 e,.list true 15 u,.list true 15 v,.list true 3 k,.int .i64 0])∧Gc a10 e∧Fo a11 u∧Fo a12 v∧OL a13 k
 | _,_,.nil,i,x,h=>by simp at h
 | _,_,.cons h1 h2 h3 h4 h5,i,x,h=>by
  cases i with
  | zero=>simp at h;exact⟨_,_,_,_,_,_,_,_,_,_,_,_,_,_,_,_,_,_,_,h.symm,rfl,h1,h2,h3,h4⟩
  | succ i=>exact h5.get (by simpa using h)
theorem OL.get:∀{l r:List D},OL l r→∀{i:Nat}{x:D},l[i]?=some x→∃(t1 t2:ByteArray) (m m':List D),x= .agg [.str t1,.str t2,.list true 15 m]∧r[i]?=some (.agg [.str t1,.str t2,.list true 15 m'])∧Fo m m'
 | _,_,.nil,i,x,h=>by simp at h
 | _,_,.cons h1 h2,i,x,h=>by
  cases i with
  | zero=>simp at h;exact⟨_,_,_,_,h.symm,rfl,h1⟩
  | succ i=>exact h2.get (by simpa using h)
theorem Q7.get:∀{l r:List D},Q7 l r→∀{i:Nat}{x:D},l[i]?=some x→∃(a0:Int) (a1:ByteArray) (a2:List D) (a3:Int) (a4:ByteArray) (a5 a6:List D) (a7 a8:Int) (a9 a10 a11:ByteArray) (a12 a13 u e:List D) (a14 a15:Int),x= .agg [.int .u8 a0,.str a1,.list true 4 a2,.int .u8 a3,.str a4,.list true 3 a5,.list true 15 a6,.int .u8 a7,.int .i64 a8,.str a9,.str a10,.str a11,.list false 1 a12,.list true 8 a13,.int .i64 a14,.int .i64 a15]∧r[i]?=some (.agg [.int .u8 a0,.str a1,.list true 4 a2,.int .u8 a3,.str a4,.list true 3 a5,.list true 15 u,.int .u8 a7,.int .i64 a8,.str a9,.str a10,.str a11,.list false 1 a12,.list true 8 e,.int .i64 0,.int .i64 0])∧Fo a6 u∧Gc a13 e
 | _,_,.nil,i,x,h=>by simp at h
 | _,_,.cons h1 h2 h3,i,x,h=>by
  cases i with
  | zero=>simp at h;exact⟨_,_,_,_,_,_,_,_,_,_,_,_,_,_,_,_,_,_,h.symm,rfl,h1,h2⟩
  | succ i=>exact h3.get (by simpa using h)
end Go.Proofs.YtjmofeakajdbiaaGreatDoor
end
set_option linter.unusedVariables false
noncomputable section
namespace Go.Proofs.YtjmofeakajdbiaaGreatDoor
open Go Go.AM
theorem rR {a0:Int}(w0:(Lit.int .u8 a0).wf=true):Shape AI 5 [.int .u8 a0]:=.int (x:=BC AI 5) a0 (by kernel_rfl) (by kernel_rfl) w0
theorem cF {a0:ByteArray}(w0:a0.size≤maxLen):Shape AI 9 [.str a0]:=.str (x:=BC AI 9) a0 (by kernel_rfl) (by kernel_rfl) w0
theorem uD {a0:List D}(w0:AD AI 33 a0):Shape AI 31 [.list true 3 a0]:=by
 have e:D.list (An (BC AI 33).desc) (BC AI 33).size a0= .list true 3 a0:=by kernel_rfl
 rw[←e]
 exact w0.shape Ao (x:=BC AI 31) (y:=BC AI 33) (by kernel_rfl) (by kernel_rfl) (by kernel_rfl)
theorem nR {a0:Int}{a1:ByteArray}{a2:List D}(w0:(Lit.int .u8 a0).wf=true) (w1:a1.size≤maxLen) (w2:AD AI 33 a2):Shape AI 33 [.int .u8 a0,.str a1,.list true 3 a2]:=by
 have tt:AI 33=some (BC AI 33):=by kernel_rfl
 obtain⟨fs,hfs,hall⟩:∃fs,(BC AI 33).desc= .struct fs∧(fs.toList.all fun f=>[(5,0),(9,1),(31,2)].contains (f.type,f.offset))=true:=⟨(match (BC AI 33).desc with | .struct fs=>fs | _=>#[]),by kernel_rfl,by kernel_rfl⟩
 refine .struct (x:=BC AI 33) (fs:=fs) _ tt hfs (by kernel_rfl) (by simp[D.isAgg]) (fun f hf y hy=>?_)
 have hq:=List.all_eq_true.1 hall f hf
 simp only[List.contains_cons,List.contains_nil,Bool.or_false,Bool.or_eq_true,beq_iff_eq,Prod.mk.injEq]at hq
 rcases hq with⟨e1,e2⟩ | ⟨e1,e2⟩ | ⟨e1,e2⟩
 ·rw[e1,show AI 5=some (BC AI 5)by kernel_rfl]at hy;cases hy;rw[e1,e2,show (BC AI 5).size=1 by kernel_rfl];exact rR w0
 ·rw[e1,show AI 9=some (BC AI 9)by kernel_rfl]at hy;cases hy;rw[e1,e2,show (BC AI 9).size=1 by kernel_rfl];exact cF w1
 ·rw[e1,show AI 31=some (BC AI 31)by kernel_rfl]at hy;cases hy;rw[e1,e2,show (BC AI 31).size=1 by kernel_rfl];exact uD w2
theorem yF {a0:Int}(w0:(Lit.int .i64 a0).wf=true):Shape AI 2 [.int .i64 a0]:=.int (x:=BC AI 2) a0 (by kernel_rfl) (by kernel_rfl) w0
theorem nS {a0:List D}(w0:AD AI 9 a0):Shape AI 34 [.list false 1 a0]:=by
 have e:D.list (An (BC AI 9).desc) (BC AI 9).size a0= .list false 1 a0:=by kernel_rfl
 rw[←e]
 exact w0.shape Ao (x:=BC AI 34) (y:=BC AI 9) (by kernel_rfl) (by kernel_rfl) (by kernel_rfl)
theorem nU {a0:ByteArray}{a1:List D}(w0:a0.size≤maxLen) (w1:AD AI 9 a1):Shape AI 36 [.str a0,.list false 1 a1]:=by
 have tt:AI 36=some (BC AI 36):=by kernel_rfl
 obtain⟨fs,hfs,hall⟩:∃fs,(BC AI 36).desc= .struct fs∧(fs.toList.all fun f=>[(9,0),(34,1)].contains (f.type,f.offset))=true:=⟨(match (BC AI 36).desc with | .struct fs=>fs | _=>#[]),by kernel_rfl,by kernel_rfl⟩
 refine .struct (x:=BC AI 36) (fs:=fs) _ tt hfs (by kernel_rfl) (by simp[D.isAgg]) (fun f hf y hy=>?_)
 have hq:=List.all_eq_true.1 hall f hf
 simp only[List.contains_cons,List.contains_nil,Bool.or_false,Bool.or_eq_true,beq_iff_eq,Prod.mk.injEq]at hq
 rcases hq with⟨e1,e2⟩ | ⟨e1,e2⟩
 ·rw[e1,show AI 9=some (BC AI 9)by kernel_rfl]at hy;cases hy;rw[e1,e2,show (BC AI 9).size=1 by kernel_rfl];exact cF w0
 ·rw[e1,show AI 34=some (BC AI 34)by kernel_rfl]at hy;cases hy;rw[e1,e2,show (BC AI 34).size=1 by kernel_rfl];exact nS w1
theorem nV {a0:List D}(w0:AD AI 39 a0):Shape AI 37 [.list true 8 a0]:=by
 have e:D.list (An (BC AI 39).desc) (BC AI 39).size a0= .list true 8 a0:=by kernel_rfl
 rw[←e]
 exact w0.shape Ao (x:=BC AI 37) (y:=BC AI 39) (by kernel_rfl) (by kernel_rfl) (by kernel_rfl)
theorem uE {a0:Int}(w0:(Lit.int .i64 a0).wf=true):Shape AI 3 [.int .i64 a0]:=.int (x:=BC AI 3) a0 (by kernel_rfl) (by kernel_rfl) w0
theorem nW {a0:Int}{a1:Int}{a2:ByteArray}{a3:ByteArray}{a4:ByteArray}{a5:List D}{a6:List D}{a7:Int}(w0:(Lit.int .u8 a0).wf=true) (w1:(Lit.int .i64 a1).wf=true) (w2:a2.size≤maxLen) (w3:a3.size≤maxLen) (w4:a4.size≤maxLen) (w5:AD AI 9 a5) (w6:AD AI 39 a6) (w7:(Lit.int .i64 a7).wf=true):Shape AI 39 [.int .u8 a0,.int .i64 a1,.str a2,.str a3,.str a4,.list false 1 a5,.list true 8 a6,.int .i64 a7]:=by
 have tt:AI 39=some (BC AI 39):=by kernel_rfl
 obtain⟨fs,hfs,hall⟩:∃fs,(BC AI 39).desc= .struct fs∧(fs.toList.all fun f=>[(5,0),(2,1),(9,2),(9,3),(36,4),(37,6),(3,7)].contains (f.type,f.offset))=true:=⟨(match (BC AI 39).desc with | .struct fs=>fs | _=>#[]),by kernel_rfl,by kernel_rfl⟩
 refine .struct (x:=BC AI 39) (fs:=fs) _ tt hfs (by kernel_rfl) (by simp[D.isAgg]) (fun f hf y hy=>?_)
 have hq:=List.all_eq_true.1 hall f hf
 simp only[List.contains_cons,List.contains_nil,Bool.or_false,Bool.or_eq_true,beq_iff_eq,Prod.mk.injEq]at hq
 rcases hq with⟨e1,e2⟩ | ⟨e1,e2⟩ | ⟨e1,e2⟩ | ⟨e1,e2⟩ | ⟨e1,e2⟩ | ⟨e1,e2⟩ | ⟨e1,e2⟩
 ·rw[e1,show AI 5=some (BC AI 5)by kernel_rfl]at hy;cases hy;rw[e1,e2,show (BC AI 5).size=1 by kernel_rfl];exact rR w0
 ·rw[e1,show AI 2=some (BC AI 2)by kernel_rfl]at hy;cases hy;rw[e1,e2,show (BC AI 2).size=1 by kernel_rfl];exact yF w1
 ·rw[e1,show AI 9=some (BC AI 9)by kernel_rfl]at hy;cases hy;rw[e1,e2,show (BC AI 9).size=1 by kernel_rfl];exact cF w2
 ·rw[e1,show AI 9=some (BC AI 9)by kernel_rfl]at hy;cases hy;rw[e1,e2,show (BC AI 9).size=1 by kernel_rfl];exact cF w3
 ·rw[e1,show AI 36=some (BC AI 36)by kernel_rfl]at hy;cases hy;rw[e1,e2,show (BC AI 36).size=2 by kernel_rfl];exact nU w4 w5
 ·rw[e1,show AI 37=some (BC AI 37)by kernel_rfl]at hy;cases hy;rw[e1,e2,show (BC AI 37).size=1 by kernel_rfl];exact nV w6
 ·rw[e1,show AI 3=some (BC AI 3)by kernel_rfl]at hy;cases hy;rw[e1,e2,show (BC AI 3).size=1 by kernel_rfl];exact uE w7
theorem nX {a0:Int}{a1:Int}{a2:ByteArray}{a3:ByteArray}{a4:ByteArray}{a5:List D}{a6:List D}{a7:Int}(w0:(Lit.int .u8 a0).wf=true) (w1:(Lit.int .i64 a1).wf=true) (w2:a2.size≤maxLen) (w3:a3.size≤maxLen) (w4:a4.size≤maxLen) (w5:AD AI 9 a5) (w6:AD AI 39 a6) (w7:(Lit.int .i64 a7).wf=true):DF AI 39 (.agg [.int .u8 a0,.int .i64 a1,.str a2,.str a3,.str a4,.list false 1 a5,.list true 8 a6,.int .i64 a7]):=⟨nW w0 w1 w2 w3 w4 w5 w6 w7,fun y hy=>by rw[show AI 39=some (BC AI 39)by kernel_rfl]at hy;cases hy;kernel_rfl⟩
theorem uF {a0:List D}(w0:AD AI 74 a0):Shape AI 42 [.list true 4 a0]:=by
 have e:D.list (An (BC AI 74).desc) (BC AI 74).size a0= .list true 4 a0:=by kernel_rfl
 rw[←e]
 exact w0.shape Ao (x:=BC AI 42) (y:=BC AI 74) (by kernel_rfl) (by kernel_rfl) (by kernel_rfl)
theorem cG {a0:List D}(w0:AD AI 50 a0):Shape AI 43 [.list true 15 a0]:=by
 have e:D.list (An (BC AI 50).desc) (BC AI 50).size a0= .list true 15 a0:=by kernel_rfl
 rw[←e]
 exact w0.shape Ao (x:=BC AI 43) (y:=BC AI 50) (by kernel_rfl) (by kernel_rfl) (by kernel_rfl)
theorem uG {a0:Int}{a1:ByteArray}{a2:List D}{a3:Int}{a4:ByteArray}{a5:List D}{a6:List D}{a7:Int}{a8:Int}{a9:ByteArray}{a10:ByteArray}{a11:ByteArray}{a12:List D}{a13:List D}{a14:Int}{a15:Int}(w0:(Lit.int .u8 a0).wf=true) (w1:a1.size≤maxLen) (w2:AD AI 74 a2) (w3:(Lit.int .u8 a3).wf=true) (w4:a4.size≤maxLen) (w5:AD AI 33 a5) (w6:AD AI 50 a6) (w7:(Lit.int .u8 a7).wf=true) (w8:(Lit.int .i64 a8).wf=true) (w9:a9.size≤maxLen) (w10:a10.size≤maxLen) (w11:a11.size≤maxLen) (w12:AD AI 9 a12) (w13:AD AI 39 a13) (w14:(Lit.int .i64 a14).wf=true) (w15:(Lit.int .i64 a15).wf=true):Shape AI 45 [.int .u8 a0,.str a1,.list true 4 a2,.int .u8 a3,.str a4,.list true 3 a5,.list true 15 a6,.int .u8 a7,.int .i64 a8,.str a9,.str a10,.str a11,.list false 1 a12,.list true 8 a13,.int .i64 a14,.int .i64 a15]:=by
 have tt:AI 45=some (BC AI 45):=by kernel_rfl
 obtain⟨fs,hfs,hall⟩:∃fs,(BC AI 45).desc= .struct fs∧(fs.toList.all fun f=>[(5,0),(9,1),(42,2),(33,3),(43,6),(39,7),(3,15)].contains (f.type,f.offset))=true:=⟨(match (BC AI 45).desc with | .struct fs=>fs | _=>#[]),by kernel_rfl,by kernel_rfl⟩
 refine .struct (x:=BC AI 45) (fs:=fs) _ tt hfs (by kernel_rfl) (by simp[D.isAgg]) (fun f hf y hy=>?_)
 have hq:=List.all_eq_true.1 hall f hf
 simp only[List.contains_cons,List.contains_nil,Bool.or_false,Bool.or_eq_true,beq_iff_eq,Prod.mk.injEq]at hq
 rcases hq with⟨e1,e2⟩ | ⟨e1,e2⟩ | ⟨e1,e2⟩ | ⟨e1,e2⟩ | ⟨e1,e2⟩ | ⟨e1,e2⟩ | ⟨e1,e2⟩
 ·rw[e1,show AI 5=some (BC AI 5)by kernel_rfl]at hy;cases hy;rw[e1,e2,show (BC AI 5).size=1 by kernel_rfl];exact rR w0
 ·rw[e1,show AI 9=some (BC AI 9)by kernel_rfl]at hy;cases hy;rw[e1,e2,show (BC AI 9).size=1 by kernel_rfl];exact cF w1
 ·rw[e1,show AI 42=some (BC AI 42)by kernel_rfl]at hy;cases hy;rw[e1,e2,show (BC AI 42).size=1 by kernel_rfl];exact uF w2
 ·rw[e1,show AI 33=some (BC AI 33)by kernel_rfl]at hy;cases hy;rw[e1,e2,show (BC AI 33).size=3 by kernel_rfl];exact nR w3 w4 w5
 ·rw[e1,show AI 43=some (BC AI 43)by kernel_rfl]at hy;cases hy;rw[e1,e2,show (BC AI 43).size=1 by kernel_rfl];exact cG w6
 ·rw[e1,show AI 39=some (BC AI 39)by kernel_rfl]at hy;cases hy;rw[e1,e2,show (BC AI 39).size=8 by kernel_rfl];exact nW w7 w8 w9 w10 w11 w12 w13 w14
 ·rw[e1,show AI 3=some (BC AI 3)by kernel_rfl]at hy;cases hy;rw[e1,e2,show (BC AI 3).size=1 by kernel_rfl];exact uE w15
theorem uH {a0:Int}{a1:ByteArray}{a2:List D}{a3:Int}{a4:ByteArray}{a5:List D}{a6:List D}{a7:Int}{a8:Int}{a9:ByteArray}{a10:ByteArray}{a11:ByteArray}{a12:List D}{a13:List D}{a14:Int}{a15:Int}(w0:(Lit.int .u8 a0).wf=true) (w1:a1.size≤maxLen) (w2:AD AI 74 a2) (w3:(Lit.int .u8 a3).wf=true) (w4:a4.size≤maxLen) (w5:AD AI 33 a5) (w6:AD AI 50 a6) (w7:(Lit.int .u8 a7).wf=true) (w8:(Lit.int .i64 a8).wf=true) (w9:a9.size≤maxLen) (w10:a10.size≤maxLen) (w11:a11.size≤maxLen) (w12:AD AI 9 a12) (w13:AD AI 39 a13) (w14:(Lit.int .i64 a14).wf=true) (w15:(Lit.int .i64 a15).wf=true):DF AI 45 (.agg [.int .u8 a0,.str a1,.list true 4 a2,.int .u8 a3,.str a4,.list true 3 a5,.list true 15 a6,.int .u8 a7,.int .i64 a8,.str a9,.str a10,.str a11,.list false 1 a12,.list true 8 a13,.int .i64 a14,.int .i64 a15]):=⟨uG w0 w1 w2 w3 w4 w5 w6 w7 w8 w9 w10 w11 w12 w13 w14 w15,fun y hy=>by rw[show AI 45=some (BC AI 45)by kernel_rfl]at hy;cases hy;kernel_rfl⟩
theorem uI {a0:List D}(w0:AD AI 95 a0):Shape AI 48 [.list true 3 a0]:=by
 have e:D.list (An (BC AI 95).desc) (BC AI 95).size a0= .list true 3 a0:=by kernel_rfl
 rw[←e]
 exact w0.shape Ao (x:=BC AI 48) (y:=BC AI 95) (by kernel_rfl) (by kernel_rfl) (by kernel_rfl)
theorem uJ {a0:Int}{a1:ByteArray}{a2:ByteArray}{a3:List D}{a4:Int}{a5:ByteArray}{a6:List D}{a7:Int}{a8:ByteArray}{a9:List D}{a10:List D}{a11:List D}{a12:List D}{a13:List D}{a14:Int}(w0:(Lit.int .u8 a0).wf=true) (w1:a1.size≤maxLen) (w2:a2.size≤maxLen) (w3:AD AI 9 a3) (w4:(Lit.int .u8 a4).wf=true) (w5:a5.size≤maxLen) (w6:AD AI 33 a6) (w7:(Lit.int .i64 a7).wf=true) (w8:a8.size≤maxLen) (w9:AD AI 9 a9) (w10:AD AI 39 a10) (w11:AD AI 50 a11) (w12:AD AI 50 a12) (w13:AD AI 95 a13) (w14:(Lit.int .i64 a14).wf=true):Shape AI 50 [.int .u8 a0,.str a1,.str a2,.list false 1 a3,.int .u8 a4,.str a5,.list true 3 a6,.int .i64 a7,.str a8,.list false 1 a9,.list true 8 a10,.list true 15 a11,.list true 15 a12,.list true 3 a13,.int .i64 a14]:=by
 have tt:AI 50=some (BC AI 50):=by kernel_rfl
 obtain⟨fs,hfs,hall⟩:∃fs,(BC AI 50).desc= .struct fs∧(fs.toList.all fun f=>[(5,0),(9,1),(9,2),(34,3),(33,4),(2,7),(36,8),(37,10),(43,11),(43,12),(48,13),(3,14)].contains (f.type,f.offset))=true:=⟨(match (BC AI 50).desc with | .struct fs=>fs | _=>#[]),by kernel_rfl,by kernel_rfl⟩
 refine .struct (x:=BC AI 50) (fs:=fs) _ tt hfs (by kernel_rfl) (by simp[D.isAgg]) (fun f hf y hy=>?_)
 have hq:=List.all_eq_true.1 hall f hf
 simp only[List.contains_cons,List.contains_nil,Bool.or_false,Bool.or_eq_true,beq_iff_eq,Prod.mk.injEq]at hq
 rcases hq with⟨e1,e2⟩ | ⟨e1,e2⟩ | ⟨e1,e2⟩ | ⟨e1,e2⟩ | ⟨e1,e2⟩ | ⟨e1,e2⟩ | ⟨e1,e2⟩ | ⟨e1,e2⟩ | ⟨e1,e2⟩ | ⟨e1,e2⟩ | ⟨e1,e2⟩ | ⟨e1,e2⟩
 ·rw[e1,show AI 5=some (BC AI 5)by kernel_rfl]at hy;cases hy;rw[e1,e2,show (BC AI 5).size=1 by kernel_rfl];exact rR w0
 ·rw[e1,show AI 9=some (BC AI 9)by kernel_rfl]at hy;cases hy;rw[e1,e2,show (BC AI 9).size=1 by kernel_rfl];exact cF w1
 ·rw[e1,show AI 9=some (BC AI 9)by kernel_rfl]at hy;cases hy;rw[e1,e2,show (BC AI 9).size=1 by kernel_rfl];exact cF w2
 ·rw[e1,show AI 34=some (BC AI 34)by kernel_rfl]at hy;cases hy;rw[e1,e2,show (BC AI 34).size=1 by kernel_rfl];exact nS w3
 ·rw[e1,show AI 33=some (BC AI 33)by kernel_rfl]at hy;cases hy;rw[e1,e2,show (BC AI 33).size=3 by kernel_rfl];exact nR w4 w5 w6
 ·rw[e1,show AI 2=some (BC AI 2)by kernel_rfl]at hy;cases hy;rw[e1,e2,show (BC AI 2).size=1 by kernel_rfl];exact yF w7
 ·rw[e1,show AI 36=some (BC AI 36)by kernel_rfl]at hy;cases hy;rw[e1,e2,show (BC AI 36).size=2 by kernel_rfl];exact nU w8 w9
 ·rw[e1,show AI 37=some (BC AI 37)by kernel_rfl]at hy;cases hy;rw[e1,e2,show (BC AI 37).size=1 by kernel_rfl];exact nV w10
 ·rw[e1,show AI 43=some (BC AI 43)by kernel_rfl]at hy;cases hy;rw[e1,e2,show (BC AI 43).size=1 by kernel_rfl];exact cG w11
 ·rw[e1,show AI 43=some (BC AI 43)by kernel_rfl]at hy;cases hy;rw[e1,e2,show (BC AI 43).size=1 by kernel_rfl];exact cG w12
 ·rw[e1,show AI 48=some (BC AI 48)by kernel_rfl]at hy;cases hy;rw[e1,e2,show (BC AI 48).size=1 by kernel_rfl];exact uI w13
 ·rw[e1,show AI 3=some (BC AI 3)by kernel_rfl]at hy;cases hy;rw[e1,e2,show (BC AI 3).size=1 by kernel_rfl];exact uE w14
theorem uK {a0:Int}{a1:ByteArray}{a2:ByteArray}{a3:List D}{a4:Int}{a5:ByteArray}{a6:List D}{a7:Int}{a8:ByteArray}{a9:List D}{a10:List D}{a11:List D}{a12:List D}{a13:List D}{a14:Int}(w0:(Lit.int .u8 a0).wf=true) (w1:a1.size≤maxLen) (w2:a2.size≤maxLen) (w3:AD AI 9 a3) (w4:(Lit.int .u8 a4).wf=true) (w5:a5.size≤maxLen) (w6:AD AI 33 a6) (w7:(Lit.int .i64 a7).wf=true) (w8:a8.size≤maxLen) (w9:AD AI 9 a9) (w10:AD AI 39 a10) (w11:AD AI 50 a11) (w12:AD AI 50 a12) (w13:AD AI 95 a13) (w14:(Lit.int .i64 a14).wf=true):DF AI 50 (.agg [.int .u8 a0,.str a1,.str a2,.list false 1 a3,.int .u8 a4,.str a5,.list true 3 a6,.int .i64 a7,.str a8,.list false 1 a9,.list true 8 a10,.list true 15 a11,.list true 15 a12,.list true 3 a13,.int .i64 a14]):=⟨uJ w0 w1 w2 w3 w4 w5 w6 w7 w8 w9 w10 w11 w12 w13 w14,fun y hy=>by rw[show AI 50=some (BC AI 50)by kernel_rfl]at hy;cases hy;kernel_rfl⟩
theorem uL {a0:ByteArray}{a1:ByteArray}{a2:List D}(w0:a0.size≤maxLen) (w1:a1.size≤maxLen) (w2:AD AI 50 a2):Shape AI 95 [.str a0,.str a1,.list true 15 a2]:=by
 have tt:AI 95=some (BC AI 95):=by kernel_rfl
 obtain⟨fs,hfs,hall⟩:∃fs,(BC AI 95).desc= .struct fs∧(fs.toList.all fun f=>[(9,0),(9,1),(43,2)].contains (f.type,f.offset))=true:=⟨(match (BC AI 95).desc with | .struct fs=>fs | _=>#[]),by kernel_rfl,by kernel_rfl⟩
 refine .struct (x:=BC AI 95) (fs:=fs) _ tt hfs (by kernel_rfl) (by simp[D.isAgg]) (fun f hf y hy=>?_)
 have hq:=List.all_eq_true.1 hall f hf
 simp only[List.contains_cons,List.contains_nil,Bool.or_false,Bool.or_eq_true,beq_iff_eq,Prod.mk.injEq]at hq
 rcases hq with⟨e1,e2⟩ | ⟨e1,e2⟩ | ⟨e1,e2⟩
 ·rw[e1,show AI 9=some (BC AI 9)by kernel_rfl]at hy;cases hy;rw[e1,e2,show (BC AI 9).size=1 by kernel_rfl];exact cF w0
 ·rw[e1,show AI 9=some (BC AI 9)by kernel_rfl]at hy;cases hy;rw[e1,e2,show (BC AI 9).size=1 by kernel_rfl];exact cF w1
 ·rw[e1,show AI 43=some (BC AI 43)by kernel_rfl]at hy;cases hy;rw[e1,e2,show (BC AI 43).size=1 by kernel_rfl];exact cG w2
theorem uM {a0:ByteArray}{a1:ByteArray}{a2:List D}(w0:a0.size≤maxLen) (w1:a1.size≤maxLen) (w2:AD AI 50 a2):DF AI 95 (.agg [.str a0,.str a1,.list true 15 a2]):=⟨uL w0 w1 w2,fun y hy=>by rw[show AI 95=some (BC AI 95)by kernel_rfl]at hy;cases hy;kernel_rfl⟩
end Go.Proofs.YtjmofeakajdbiaaGreatDoor
end
set_option linter.unusedVariables false
noncomputable section
namespace Go.Proofs.YtjmofeakajdbiaaGreatDoor
open Go Go.AM
mutual
def Fq:Nat->LD->Int->LD->Int->Option LD
 | 0,_,_,_,_=>none
 | n+1,l1,z2,l3,z4=>
  (if z4<z2 then Gd n l1 z2 l3 z4 true else Gd n l1 z2 l3 z4 false)
def Gd:Nat->LD->Int->LD->Int->Bool->Option LD
 | 0,_,_,_,_,_=>none
 | n+1,l1,z2,l3,z4,b5=>
  (if b5=true then Ap l1 z4 fun x6=>Cf x6 fun z7 s8 l9=>bO3 (H4 n z7 s8 l9) fun z10 s11 l12=>Dc 48 l3 ([.agg [.int .u8 z10,.str s11,.list true 3 l12]]) fun l13=>AJ (IntKind.wrap .i64 (z4+1)) fun z14=>Fq n l1 z2 l13 z14 else some l3)
def XH:Nat->LD->Option LD
 | 0,_=>none
 | n+1,l1=>
  AE l1 fun z2=>Fq n l1 z2 ([]:LD) (0:Int)
def H4:Nat->Int->BA->LD->Option (Int×BA×LD)
 | 0,_,_,_=>none
 | n+1,z1,s2,l3=>
  bO1 (XH n l3) fun l4=>some (z1,s2,l4)
end
theorem uN (n:Nat):(∀⦃l1 r1⦄,XH n l1=some r1->
    Ah Tryz.prog inv 103 [.d (.list true 3 l1),.c (.fn 102 [.ext 0])] [.cells [.fn 102 [.ext 0]]] (.v (.d (.list true 3 r1))) [.cells [.fn 102 [.ext 0]]] [])/\
    (∀⦃z1 s2 l3 r1 r2 r3⦄,H4 n z1 s2 l3=some (r1,r2,r3)->
    Ah Tryz.prog inv 102 [.d (.agg [.int .u8 z1,.str s2,.list true 3 l3]),.c (.ptr (.ext 0) 0)] [.cells [.fn 102 [.ext 0]]] (.v (.d (.agg [.int .u8 r1,.str r2,.list true 3 r3]))) [.cells [.fn 102 [.ext 0]]] []):=by
 induction n using Nat.strongRecOn with | _ n ih=>
 obtain _ | n:=n
 ·refine⟨?_,?_⟩
  ·intro l1 r1 h
   cases (show (none:Option _)=some _ from h)
  intro z1 s2 l3 r1 r2 r3 h
  cases (show (none:Option _)=some _ from h)
 refine⟨?_,?_⟩
 rotate_left
 ·intro z1 s2 l3 r1 r2 r3 h
  rw[H4]at h
  refine Ah.of BI Ao Fi Tryz.func102 rfl (by kernel_rfl) rfl rfl rfl (fun M hM hI=>?_)
  try cbv
  refine AB ?_
  try cbv
  refine AB ?_
  try cbv
  replace h:=AU h
  obtain⟨l4,hr,h⟩:=h
  refine AZ rfl rfl ?_
  try cbv
  refine Al hM hI [.ext 0] ((ih _ (by omega)).1 hr) rfl (by simp) ⟨rfl,trivial⟩ ⟨trivial,trivial⟩ (by simp) ?_
  clear hr
  try cbv
  refine AB ?_
  try cbv
  obtain⟨rfl,rfl,rfl⟩:=Mv h
  refine AR ?_
  try cbv
  exact⟨[],rfl,rfl,⟨rfl,trivial⟩,trivial,trivial⟩
 intro l1 r1 h
 rw[XH]at h
 refine Ah.of BI Ao Fi Tryz.func103 rfl (by kernel_rfl) rfl rfl rfl (fun M hM hI=>?_)
 try cbv
 refine AB ?_
 try cbv
 refine AB ?_
 try cbv
 refine AB ?_
 try cbv
 refine AB ?_
 try cbv
 replace h:=BL M h
 obtain⟨z2,hz,h⟩:=h
 refine⟨z2,hz,?_⟩
 clear hz
 try cbv
 refine Cd (T:=Nat×LD×Int) [.slot 5 true 3 33] [1,4,5,8,9,10] [.ext 0,.loc 160] 192 (fun t=>⟨[(1,.v (.c (.fn 102 [.ext 0]))),(4,.v (.c (.nils true 3))),(5,.v (.c (.lst (.loc 160) true 3 t.2.1))),sT 8 3 l1,sI 9 z2,sI 10 t.2.2],[(.ext 0,.cells [.fn 102 [.ext 0]]),(.loc 160,.tok t.2.1.length 3 33)],192⟩)
   (fun t=>t.1<=n/\Fq t.1 l1 z2 t.2.1 t.2.2=some r1) (fun t=>t.1) (n,(([]:LD),(0:Int))) ⟨Nat.le_refl _,h⟩ (by cbv) ?_
 clear h
 rintro⟨m1,l3,z4⟩ ⟨hm1,h⟩
 replace hm1:m1<=n:=hm1
 obtain _ | m1:=m1
 ·replace h:Fq 0 l1 z2 l3 z4=some r1:=h
  rw[Fq]at h
  cases h
 replace h:Fq (m1+1) l1 z2 l3 z4=some r1:=h
 rw[Fq]at h
 try cbv
 refine AK 11 [1,4,5,8,9,10,11] [.ext 0,.loc 160] 224 (fun m b=>m<=m1/\Gd m l1 z2 l3 z4 b=some r1) ?_ ?_
 ·try cbv
  refine Bu (fun e=>?_) (fun e=>?_)
  ·replace h:=Aj e h
   clear e
   try cbv
   exact AA (m1,true) [1,4,5,8,9,10,11] [.ext 0,.loc 160] 224 ⟨by omega,h⟩ (by cbv)
  replace h:=Ak (Int.not_lt.2 e) h
  clear e
  try cbv
  exact AA (m1,false) [1,4,5,8,9,10,11] [.ext 0,.loc 160] 224 ⟨by omega,h⟩ (by cbv)
 clear h
 rintro⟨m2,b5⟩ ⟨hm2,h⟩
 try cbv
 replace hm2:m2<=m1:=hm2
 obtain _ | m2:=m2
 ·replace h:Gd 0 l1 z2 l3 z4 b5=some r1:=h
  rw[Gd]at h
  cases h
 replace h:Gd (m2+1) l1 z2 l3 z4 b5=some r1:=h
 rw[Gd]at h
 try cbv
 refine AB ?_
 try cbv
 cases b5
 ·replace h:=Bp h
  try cbv
  refine AB ?_
  try cbv
  obtain rfl:=Option.some.inj h
  refine AR ?_
  try cbv
  exact⟨[],rfl,rfl,⟨rfl,trivial⟩,trivial,trivial⟩
 replace h:=Bo h
 try cbv
 refine AB ?_
 try cbv
 refine AB ?_
 try cbv
 replace h:=BT h
 obtain⟨x6,⟨hx0,hx⟩,h⟩:=h
 refine⟨x6,hx0,hx,?_⟩
 clear hx0 hx
 replace h:=JF h
 obtain⟨z7,s8,l9,rfl,h⟩:=h
 try cbv
 replace h:=Jl h
 obtain⟨z10,s11,l12,hr,h⟩:=h
 refine AZ rfl rfl ?_
 try cbv
 refine Al hM hI [.ext 0] ((ih _ (by omega)).2 hr) rfl (by simp) ⟨rfl,trivial⟩ ⟨trivial,trivial⟩ (by simp) ?_
 clear hr
 try cbv
 refine⟨false,?_⟩
 try cbv
 refine⟨true,?_⟩
 try cbv
 replace h:=Ct h
 obtain⟨l13,hb,hz,h⟩:=h
 refine⟨false,?_⟩
 try cbv
 first | refine⟨rfl,(M.lock_iff _).2 hb,l13,hz,?_⟩ | refine⟨(M.lock_iff _).2 hb,l13,hz,?_⟩
 clear hb hz
 try cbv
 replace h:=Ac h
 obtain⟨z14,hz,h⟩:=h
 refine⟨z14,hz,?_⟩
 clear hz
 try cbv
 exact BP (m2,(l13,z14)) [1,4,5,8,9,10] [.ext 0,.loc 160] 192 ⟨by omega,h⟩ (Nat.lt_succ_of_le (by omega)) (by cbv)
theorem jD (n:Nat):∀⦃z1 s2 l3 r1 r2 r3⦄,H4 n z1 s2 l3=some (r1,r2,r3)->
  Ah Tryz.prog inv 102 [.d (.agg [.int .u8 z1,.str s2,.list true 3 l3]),.c (.ptr (.ext 0) 0)] [.cells [.fn 102 [.ext 0]]] (.v (.d (.agg [.int .u8 r1,.str r2,.list true 3 r3]))) [.cells [.fn 102 [.ext 0]]] []:=(uN n).2
noncomputable def uO:BQ:=⟨102,[.agg [.y,.str,.q 3],.p (.ext 0) 0],[[.fn 102 [.ext 0]]],[⟨.one (.agg [.y,.str,.q 3]),[[.fn 102 [.ext 0]]],[]⟩],Int×BA×LD,inferInstance,H4⟩
noncomputable def jE:Kz:=⟨uO,fun n=>Cm fun z1 s2 l3 p h w1 w2 w4 w3 l1 l2 e1 e2 e5 e3 xs e4=>by cases e1;cases e2;cases e4;cases e5;cases e3;exact jD n h⟩
def DA:Nat->LD->Bool->Option LD
 | 0,_,_=>none
 | n+1,l1,b2=>
  (if b2=true then some ([]:LD)else Dc 16 [] l1 fun l3=>some l3)
def Q8 (n:Nat) (l1:LD):Option LD:=
 (nilF l1 (DA n l1 true) (DA n l1 false))
theorem jF (n:Nat):∀⦃l1 r1⦄,Q8 n l1=some r1->
    Ah Tryz.prog inv 105 [.d (.list false 1 l1)] [] (.v (.d (.list false 1 r1))) [] []:=by
 intro l1 r1 h
 unfold Q8 at h
 refine Ah.of BI Ao Fi Tryz.func105 rfl (by kernel_rfl) rfl rfl rfl (fun M hM hI=>?_)
 try cbv
 refine AB ?_
 try cbv
 refine AB ?_
 try cbv
 refine AK 4 [0,2,4] [] 96 (fun m b=>m<=n/\DA m l1 b=some r1) ?_ ?_
 ·try cbv
  replace h:=YL h
  obtain⟨h,hA⟩:=h
  refine YM ?_ (fun e=>?_)
  ·clear hA
   try cbv
   exact AA (n,false) [0,2,4] [] 96 ⟨by omega,h⟩ (by cbv)
  replace h:=hA e
  clear hA
  try cbv
  exact AA (n,true) [0,2,4] [] 96 ⟨by omega,h⟩ (by cbv)
 clear h
 rintro⟨m1,b2⟩ ⟨hm1,h⟩
 try cbv
 replace hm1:m1<=n:=hm1
 obtain _ | m1:=m1
 ·replace h:DA 0 l1 b2=some r1:=h
  rw[DA]at h
  cases h
 replace h:DA (m1+1) l1 b2=some r1:=h
 rw[DA]at h
 try cbv
 cases b2
 ·replace h:=Bp h
  try cbv
  refine AB ?_
  try cbv
  refine⟨false,?_⟩
  try cbv
  refine⟨true,?_⟩
  try cbv
  replace h:=Ct h
  obtain⟨l3,hb,hz,h⟩:=h
  refine⟨false,?_⟩
  try cbv
  refine⟨(M.lock_iff _).2 hb,l3,hz,false,?_⟩
  clear hb hz
  try cbv
  obtain rfl:=Option.some.inj h
  refine AR ?_
  try cbv
  exact⟨[],by trivial⟩
 replace h:=Bo h
 try cbv
 refine AB ?_
 try cbv
 obtain rfl:=Option.some.inj h
 refine AR ?_
 try cbv
 exact⟨[],by trivial⟩
noncomputable def uP:BQ:=⟨105,[.f 1],[],[⟨.one (.f 1),[],[]⟩],LD,inferInstance,Q8⟩
noncomputable def uQ:Kz:=⟨uP,fun n=>Cm fun l1 p h w1 w2 w4 w3 l1 l2 e1 e2 e5 e3 xs e4=>by cases e1;cases e2;cases e4;cases e5;cases e3;exact jF n h⟩
def Q9 (n:Nat) (s1:BA) (l2:LD):Option (BA×LD):=
 bO1 (Q8 n l2) fun l3=>some (s1,l3)
noncomputable def uR:BX:=⟨104,Tryz.f104,[.agg [.str,.f 1]],[],⟨.one (.agg [.str,.f 1]),[],[]⟩,BA×LD,inferInstance,Q9,[]⟩
noncomputable def uS:Kz:=sg uR [uQ] Tryz.func104 (by kernel_rfl) (by kernel_rfl) (by kernel_rfl)
theorem cH (n:Nat):∀⦃s1 l2 r1 r2⦄,Q9 n s1 l2=some (r1,r2)->
  Ah Tryz.prog inv 104 [.d (.agg [.str s1,.list false 1 l2])] [] (.v (.d (.agg [.str r1,.list false 1 r2]))) [] []:=fun s1 l2 r1 r2 h=>uS.ok n [.S s1,.L l2] _ h _ _ _ _ _ _ rfl rfl rfl rfl _ rfl
def fL (n:Nat) (z1:Int):Option (Int):=
 some z1
noncomputable def X57:BX:=⟨57,Tryz.f57,[.z],[],⟨.one (.z),[],[]⟩,Int,inferInstance,fL,[]⟩
noncomputable def yG:Kz:=sg X57 [] Tryz.func57 (by kernel_rfl) (by kernel_rfl) (by kernel_rfl)
theorem yH (n:Nat):∀⦃z1 r1⦄,fL n z1=some r1->
  Ah Tryz.prog inv 57 [.d (.int .i64 z1)] [] (.v (.d (.int .i64 r1))) [] []:=fun z1 r1 h=>yG.ok n [.I z1] _ h _ _ _ _ _ _ rfl rfl rfl rfl _ rfl
mutual
def H5:Nat->Int->Int->BA->BA->BA->LD->LD->Int->Option (Int×Int×BA×BA×BA×LD×LD×Int)
 | 0,_,_,_,_,_,_,_,_=>none
 | n+1,z1,z2,s3,s4,s5,l6,l7,z8=>
  bO2 (Q9 n s5 l6) fun s9 l10=>bO1 (H6 n l7) fun l11=>bO1 (fL n z8) fun z12=>some (z1,z2,s3,s4,s9,l10,l11,z12)
def CJ:Nat->LD->Int->LD->Int->Option LD
 | 0,_,_,_,_=>none
 | n+1,l1,z2,l3,z4=>
  (if z4<z2 then Cw n l1 z2 l3 z4 true else Cw n l1 z2 l3 z4 false)
def Cw:Nat->LD->Int->LD->Int->Bool->Option LD
 | 0,_,_,_,_,_=>none
 | n+1,l1,z2,l3,z4,b5=>
  (if b5=true then Ap l1 z4 fun x6=>BD x6 fun z7 z8 s9 s10 s11 l12 l13 z14=>bO8 (H5 n z7 z8 s9 s10 s11 l12 l13 z14) fun z15 z16 s17 s18 s19 l20 l21 z22=>Dc 120 l3 ([.agg [.int .u8 z15,.int .i64 z16,.str s17,.str s18,.str s19,.list false 1 l20,.list true 8 l21,.int .i64 z22]]) fun l23=>AJ (IntKind.wrap .i64 (z4+1)) fun z24=>CJ n l1 z2 l23 z24 else some l3)
def H6:Nat->LD->Option LD
 | 0,_=>none
 | n+1,l1=>
  AE l1 fun z2=>CJ n l1 z2 ([]:LD) (0:Int)
end
theorem ZJ (n:Nat):(∀⦃z1 z2 s3 s4 s5 l6 l7 z8 r1 r2 r3 r4 r5 r6 r7 r8⦄,H5 n z1 z2 s3 s4 s5 l6 l7 z8=some (r1,r2,r3,r4,r5,r6,r7,r8)->
    Ah Tryz.prog inv 106 [.d (.agg [.int .u8 z1,.int .i64 z2,.str s3,.str s4,.str s5,.list false 1 l6,.list true 8 l7,.int .i64 z8]),.c (.ptr (.ext 0) 0),.c (.ptr (.ext 1) 0),.c (.ptr (.ext 2) 0)] [.cells [.fn 104 []],.cells [.fn 106 [.ext 0,.ext 1,.ext 2]],.cells [.fn 57 []]] (.v (.d (.agg [.int .u8 r1,.int .i64 r2,.str r3,.str r4,.str r5,.list false 1 r6,.list true 8 r7,.int .i64 r8]))) [.cells [.fn 104 []],.cells [.fn 106 [.ext 0,.ext 1,.ext 2]],.cells [.fn 57 []]] [])/\
    (∀⦃l1 r1⦄,H6 n l1=some r1->
    Ah Tryz.prog inv 107 [.d (.list true 8 l1),.c (.fn 106 [.ext 0,.ext 1,.ext 2])] [.cells [.fn 104 []],.cells [.fn 106 [.ext 0,.ext 1,.ext 2]],.cells [.fn 57 []]] (.v (.d (.list true 8 r1))) [.cells [.fn 104 []],.cells [.fn 106 [.ext 0,.ext 1,.ext 2]],.cells [.fn 57 []]] []):=by
 induction n using Nat.strongRecOn with | _ n ih=>
 obtain _ | n:=n
 ·refine⟨?_,?_⟩
  ·intro z1 z2 s3 s4 s5 l6 l7 z8 r1 r2 r3 r4 r5 r6 r7 r8 h
   cases (show (none:Option _)=some _ from h)
  intro l1 r1 h
  cases (show (none:Option _)=some _ from h)
 refine⟨?_,?_⟩
 ·intro z1 z2 s3 s4 s5 l6 l7 z8 r1 r2 r3 r4 r5 r6 r7 r8 h
  rw[H5]at h
  refine Ah.of BI Ao Fi Tryz.func106 rfl (by kernel_rfl) rfl rfl rfl (fun M hM hI=>?_)
  try cbv
  refine AB ?_
  try cbv
  refine AB ?_
  try cbv
  replace h:=GY h
  obtain⟨s9,l10,hr,h⟩:=h
  first | refine .inr (.inl ⟨[],?_⟩) | refine .inl ⟨[],?_⟩
  try cbv
  refine AQ hM hI (cH _ hr) rfl ?_
  clear hr
  try cbv
  replace h:=AU h
  obtain⟨l11,hr,h⟩:=h
  first | refine .inr (.inr ⟨[.ext 0,.ext 1,.ext 2],?_⟩) | refine .inr ⟨[.ext 0,.ext 1,.ext 2],?_⟩
  try cbv
  refine Al hM hI [.ext 0,.ext 1,.ext 2] ((ih _ (by omega)).2 hr) rfl (by simp) ⟨rfl,⟨rfl,⟨rfl,trivial⟩⟩⟩ ⟨trivial,⟨trivial,⟨trivial,trivial⟩⟩⟩ (by simp) ?_
  try cbv
  first | refine⟨(rfl:(_:Option AF)=_),?_⟩ | skip
  first | refine⟨(rfl:(_:Option AF)=_),?_⟩ | skip
  first | refine⟨(rfl:(_:Option AF)=_),?_⟩ | skip
  try cbv
  clear hr
  try cbv
  replace h:=AU h
  obtain⟨z12,hr,h⟩:=h
  first | refine .inr (.inl ⟨[],?_⟩) | refine .inl ⟨[],?_⟩
  try cbv
  refine AQ hM hI (yH _ hr) rfl ?_
  clear hr
  try cbv
  refine drawn ?_ ?_
  ·show _=true
   kernel_rfl
  try cbv
  refine AB ?_
  try cbv
  obtain⟨rfl,rfl,rfl,rfl,rfl,rfl,rfl,rfl⟩:=sO h
  refine AR ?_
  try cbv
  exact⟨[],rfl,rfl,⟨rfl,⟨rfl,⟨rfl,trivial⟩⟩⟩,trivial,trivial⟩
 intro l1 r1 h
 rw[H6]at h
 refine Ah.of BI Ao Fi Tryz.func107 rfl (by kernel_rfl) rfl rfl rfl (fun M hM hI=>?_)
 try cbv
 refine AB ?_
 try cbv
 refine AB ?_
 try cbv
 refine AB ?_
 try cbv
 refine AB ?_
 try cbv
 replace h:=BL M h
 obtain⟨z2,hz,h⟩:=h
 refine⟨z2,hz,?_⟩
 clear hz
 try cbv
 refine Cd (T:=Nat×LD×Int) [.slot 5 true 8 39] [1,4,5,8,9,10] [.ext 0,.ext 1,.ext 2,.loc 160] 192 (fun t=>⟨[(1,.v (.c (.fn 106 [.ext 0,.ext 1,.ext 2]))),(4,.v (.c (.nils true 8))),(5,.v (.c (.lst (.loc 160) true 8 t.2.1))),sT 8 8 l1,sI 9 z2,sI 10 t.2.2],[(.ext 0,.cells [.fn 104 []]),(.ext 1,.cells [.fn 106 [.ext 0,.ext 1,.ext 2]]),(.ext 2,.cells [.fn 57 []]),(.loc 160,.tok t.2.1.length 8 39)],192⟩)
   (fun t=>t.1<=n/\CJ t.1 l1 z2 t.2.1 t.2.2=some r1) (fun t=>t.1) (n,(([]:LD),(0:Int))) ⟨Nat.le_refl _,h⟩ (by cbv) ?_
 clear h
 rintro⟨m1,l3,z4⟩ ⟨hm1,h⟩
 replace hm1:m1<=n:=hm1
 obtain _ | m1:=m1
 ·replace h:CJ 0 l1 z2 l3 z4=some r1:=h
  rw[CJ]at h
  cases h
 replace h:CJ (m1+1) l1 z2 l3 z4=some r1:=h
 rw[CJ]at h
 try cbv
 refine AK 11 [1,4,5,8,9,10,11] [.ext 0,.ext 1,.ext 2,.loc 160] 224 (fun m b=>m<=m1/\Cw m l1 z2 l3 z4 b=some r1) ?_ ?_
 ·try cbv
  refine Bu (fun e=>?_) (fun e=>?_)
  ·replace h:=Aj e h
   clear e
   try cbv
   exact AA (m1,true) [1,4,5,8,9,10,11] [.ext 0,.ext 1,.ext 2,.loc 160] 224 ⟨by omega,h⟩ (by cbv)
  replace h:=Ak (Int.not_lt.2 e) h
  clear e
  try cbv
  exact AA (m1,false) [1,4,5,8,9,10,11] [.ext 0,.ext 1,.ext 2,.loc 160] 224 ⟨by omega,h⟩ (by cbv)
 clear h
 rintro⟨m2,b5⟩ ⟨hm2,h⟩
 try cbv
 replace hm2:m2<=m1:=hm2
 obtain _ | m2:=m2
 ·replace h:Cw 0 l1 z2 l3 z4 b5=some r1:=h
  rw[Cw]at h
  cases h
 replace h:Cw (m2+1) l1 z2 l3 z4 b5=some r1:=h
 rw[Cw]at h
 try cbv
 refine AB ?_
 try cbv
 cases b5
 ·replace h:=Bp h
  try cbv
  refine AB ?_
  try cbv
  obtain rfl:=Option.some.inj h
  refine AR ?_
  try cbv
  exact⟨[],rfl,rfl,⟨rfl,⟨rfl,⟨rfl,trivial⟩⟩⟩,trivial,trivial⟩
 replace h:=Bo h
 try cbv
 refine AB ?_
 try cbv
 refine AB ?_
 try cbv
 replace h:=BT h
 obtain⟨x6,⟨hx0,hx⟩,h⟩:=h
 refine⟨x6,hx0,hx,?_⟩
 clear hx0 hx
 replace h:=FE h
 obtain⟨z7,z8,s9,s10,s11,l12,l13,z14,rfl,h⟩:=h
 try cbv
 replace h:=aY h
 obtain⟨z15,z16,s17,s18,s19,l20,l21,z22,hr,h⟩:=h
 refine AZ rfl rfl ?_
 try cbv
 refine Al hM hI [.ext 0,.ext 1,.ext 2] ((ih _ (by omega)).1 hr) rfl (by simp) ⟨rfl,⟨rfl,⟨rfl,trivial⟩⟩⟩ ⟨trivial,⟨trivial,⟨trivial,trivial⟩⟩⟩ (by simp) ?_
 clear hr
 try cbv
 refine⟨false,?_⟩
 try cbv
 refine⟨true,?_⟩
 try cbv
 replace h:=Ct h
 obtain⟨l23,hb,hz,h⟩:=h
 refine⟨false,?_⟩
 try cbv
 first | refine⟨rfl,(M.lock_iff _).2 hb,l23,hz,?_⟩ | refine⟨(M.lock_iff _).2 hb,l23,hz,?_⟩
 clear hb hz
 try cbv
 replace h:=Ac h
 obtain⟨z24,hz,h⟩:=h
 refine⟨z24,hz,?_⟩
 clear hz
 try cbv
 exact BP (m2,(l23,z24)) [1,4,5,8,9,10] [.ext 0,.ext 1,.ext 2,.loc 160] 192 ⟨by omega,h⟩ (Nat.lt_succ_of_le (by omega)) (by cbv)
theorem jG (n:Nat):∀⦃z1 z2 s3 s4 s5 l6 l7 z8 r1 r2 r3 r4 r5 r6 r7 r8⦄,H5 n z1 z2 s3 s4 s5 l6 l7 z8=some (r1,r2,r3,r4,r5,r6,r7,r8)->
  Ah Tryz.prog inv 106 [.d (.agg [.int .u8 z1,.int .i64 z2,.str s3,.str s4,.str s5,.list false 1 l6,.list true 8 l7,.int .i64 z8]),.c (.ptr (.ext 0) 0),.c (.ptr (.ext 1) 0),.c (.ptr (.ext 2) 0)] [.cells [.fn 104 []],.cells [.fn 106 [.ext 0,.ext 1,.ext 2]],.cells [.fn 57 []]] (.v (.d (.agg [.int .u8 r1,.int .i64 r2,.str r3,.str r4,.str r5,.list false 1 r6,.list true 8 r7,.int .i64 r8]))) [.cells [.fn 104 []],.cells [.fn 106 [.ext 0,.ext 1,.ext 2]],.cells [.fn 57 []]] []:=(ZJ n).1
theorem jH (n:Nat):∀⦃l1 r1⦄,H6 n l1=some r1->
  Ah Tryz.prog inv 107 [.d (.list true 8 l1),.c (.fn 106 [.ext 0,.ext 1,.ext 2])] [.cells [.fn 104 []],.cells [.fn 106 [.ext 0,.ext 1,.ext 2]],.cells [.fn 57 []]] (.v (.d (.list true 8 r1))) [.cells [.fn 104 []],.cells [.fn 106 [.ext 0,.ext 1,.ext 2]],.cells [.fn 57 []]] []:=(ZJ n).2
noncomputable def jI:BQ:=⟨106,[.agg [.y,.z,.str,.str,.str,.f 1,.q 8,.z],.p (.ext 0) 0,.p (.ext 1) 0,.p (.ext 2) 0],[[.fn 104 []],[.fn 106 [.ext 0,.ext 1,.ext 2]],[.fn 57 []]],[⟨.one (.agg [.y,.z,.str,.str,.str,.f 1,.q 8,.z]),[[.fn 104 []],[.fn 106 [.ext 0,.ext 1,.ext 2]],[.fn 57 []]],[]⟩],Int×Int×BA×BA×BA×LD×LD×Int,inferInstance,H5⟩
noncomputable def jJ:Kz:=⟨jI,fun n=>Cm fun z1 z2 s3 s4 s5 l6 l7 z8 p h w1 w2 w4 w3 l1 l2 e1 e2 e5 e3 xs e4=>by cases e1;cases e2;cases e4;cases e5;cases e3;exact jG n h⟩
mutual
def RA:Nat->BA->BA->LD->Option (BA×BA×LD)
 | 0,_,_,_=>none
 | n+1,s1,s2,l3=>
  bO1 (FK n l3) fun l4=>some (s1,s2,l4)
def DG:Nat->LD->Int->LD->Int->Option LD
 | 0,_,_,_,_=>none
 | n+1,l1,z2,l3,z4=>
  (if z4<z2 then Dm n l1 z2 l3 z4 true else Dm n l1 z2 l3 z4 false)
def Dm:Nat->LD->Int->LD->Int->Bool->Option LD
 | 0,_,_,_,_,_=>none
 | n+1,l1,z2,l3,z4,b5=>
  (if b5=true then Ap l1 z4 fun x6=>Bf x6 fun s7 s8 l9=>bO3 (RA n s7 s8 l9) fun s10 s11 l12=>Dc 56 l3 ([.agg [.str s10,.str s11,.list true 15 l12]]) fun l13=>AJ (IntKind.wrap .i64 (z4+1)) fun z14=>DG n l1 z2 l13 z14 else some l3)
def NT:Nat->LD->Option LD
 | 0,_=>none
 | n+1,l1=>
  AE l1 fun z2=>DG n l1 z2 ([]:LD) (0:Int)
def NU:Nat->Int->BA->BA->LD->Int->BA->LD->Int->BA->LD->LD->LD->LD->LD->Int->Option (Int×BA×BA×LD×Int×BA×LD×Int×BA×LD×LD×LD×LD×LD×Int)
 | 0,_,_,_,_,_,_,_,_,_,_,_,_,_,_,_=>none
 | n+1,z1,s2,s3,l4,z5,s6,l7,z8,s9,l10,l11,l12,l13,l14,z15=>
  bO1 (Q8 n l4) fun l16=>bO3 (H4 n z5 s6 l7) fun z17 s18 l19=>bO2 (Q9 n s9 l10) fun s20 l21=>bO1 (H6 n l11) fun l22=>bO1 (FK n l12) fun l23=>bO1 (FK n l13) fun l24=>bO1 (NT n l14) fun l25=>bO1 (fL n z15) fun z26=>some (z1,s2,s3,l16,z17,s18,l19,z8,s20,l21,l22,l23,l24,l25,z26)
def DH:Nat->LD->Int->LD->Int->Option LD
 | 0,_,_,_,_=>none
 | n+1,l1,z2,l3,z4=>
  (if z4<z2 then Dn n l1 z2 l3 z4 true else Dn n l1 z2 l3 z4 false)
def Dn:Nat->LD->Int->LD->Int->Bool->Option LD
 | 0,_,_,_,_,_=>none
 | n+1,l1,z2,l3,z4,b5=>
  (if b5=true then Ap l1 z4 fun x6=>BJ x6 fun z7 s8 s9 l10 z11 s12 l13 z14 s15 l16 l17 l18 l19 l20 z21=>bO15 (NU n z7 s8 s9 l10 z11 s12 l13 z14 s15 l16 l17 l18 l19 l20 z21) fun z22 s23 s24 l25 z26 s27 l28 z29 s30 l31 l32 l33 l34 l35 z36=>Dc 264 l3 ([.agg [.int .u8 z22,.str s23,.str s24,.list false 1 l25,.int .u8 z26,.str s27,.list true 3 l28,.int .i64 z29,.str s30,.list false 1 l31,.list true 8 l32,.list true 15 l33,.list true 15 l34,.list true 3 l35,.int .i64 z36]]) fun l37=>AJ (IntKind.wrap .i64 (z4+1)) fun z38=>DH n l1 z2 l37 z38 else some l3)
def FK:Nat->LD->Option LD
 | 0,_=>none
 | n+1,l1=>
  AE l1 fun z2=>DH n l1 z2 ([]:LD) (0:Int)
end
theorem jK (n:Nat):(∀⦃s1 s2 l3 r1 r2 r3⦄,RA n s1 s2 l3=some (r1,r2,r3)->
    Ah Tryz.prog inv 108 [.d (.agg [.str s1,.str s2,.list true 15 l3]),.c (.ptr (.ext 0) 0)] [.cells [.fn 110 [.ext 1,.ext 2,.ext 3,.ext 0,.ext 5,.ext 4]],.cells [.fn 102 [.ext 1]],.cells [.fn 104 []],.cells [.fn 106 [.ext 2,.ext 3,.ext 4]],.cells [.fn 57 []],.cells [.fn 108 [.ext 0]]] (.v (.d (.agg [.str r1,.str r2,.list true 15 r3]))) [.cells [.fn 110 [.ext 1,.ext 2,.ext 3,.ext 0,.ext 5,.ext 4]],.cells [.fn 102 [.ext 1]],.cells [.fn 104 []],.cells [.fn 106 [.ext 2,.ext 3,.ext 4]],.cells [.fn 57 []],.cells [.fn 108 [.ext 0]]] [])/\
    (∀⦃l1 r1⦄,NT n l1=some r1->
    Ah Tryz.prog inv 111 [.d (.list true 3 l1),.c (.fn 108 [.ext 0])] [.cells [.fn 110 [.ext 1,.ext 2,.ext 3,.ext 0,.ext 5,.ext 4]],.cells [.fn 102 [.ext 1]],.cells [.fn 104 []],.cells [.fn 106 [.ext 2,.ext 3,.ext 4]],.cells [.fn 57 []],.cells [.fn 108 [.ext 0]]] (.v (.d (.list true 3 r1))) [.cells [.fn 110 [.ext 1,.ext 2,.ext 3,.ext 0,.ext 5,.ext 4]],.cells [.fn 102 [.ext 1]],.cells [.fn 104 []],.cells [.fn 106 [.ext 2,.ext 3,.ext 4]],.cells [.fn 57 []],.cells [.fn 108 [.ext 0]]] [])/\
    (∀⦃z1 s2 s3 l4 z5 s6 l7 z8 s9 l10 l11 l12 l13 l14 z15 r1 r2 r3 r4 r5 r6 r7 r8 r9 r10 r11 r12 r13 r14 r15⦄,NU n z1 s2 s3 l4 z5 s6 l7 z8 s9 l10 l11 l12 l13 l14 z15=some (r1,r2,r3,r4,r5,r6,r7,r8,r9,r10,r11,r12,r13,r14,r15)->
    Ah Tryz.prog inv 110 [.d (.agg [.int .u8 z1,.str s2,.str s3,.list false 1 l4,.int .u8 z5,.str s6,.list true 3 l7,.int .i64 z8,.str s9,.list false 1 l10,.list true 8 l11,.list true 15 l12,.list true 15 l13,.list true 3 l14,.int .i64 z15]),.c (.ptr (.ext 0) 0),.c (.ptr (.ext 1) 0),.c (.ptr (.ext 2) 0),.c (.ptr (.ext 4) 0),.c (.ptr (.ext 5) 0),.c (.ptr (.ext 3) 0)] [.cells [.fn 102 [.ext 0]],.cells [.fn 104 []],.cells [.fn 106 [.ext 1,.ext 2,.ext 3]],.cells [.fn 57 []],.cells [.fn 110 [.ext 0,.ext 1,.ext 2,.ext 4,.ext 5,.ext 3]],.cells [.fn 108 [.ext 4]]] (.v (.d (.agg [.int .u8 r1,.str r2,.str r3,.list false 1 r4,.int .u8 r5,.str r6,.list true 3 r7,.int .i64 r8,.str r9,.list false 1 r10,.list true 8 r11,.list true 15 r12,.list true 15 r13,.list true 3 r14,.int .i64 r15]))) [.cells [.fn 102 [.ext 0]],.cells [.fn 104 []],.cells [.fn 106 [.ext 1,.ext 2,.ext 3]],.cells [.fn 57 []],.cells [.fn 110 [.ext 0,.ext 1,.ext 2,.ext 4,.ext 5,.ext 3]],.cells [.fn 108 [.ext 4]]] [])/\
    (∀⦃l1 r1⦄,FK n l1=some r1->
    Ah Tryz.prog inv 109 [.d (.list true 15 l1),.c (.fn 110 [.ext 0,.ext 1,.ext 2,.ext 4,.ext 5,.ext 3])] [.cells [.fn 102 [.ext 0]],.cells [.fn 104 []],.cells [.fn 106 [.ext 1,.ext 2,.ext 3]],.cells [.fn 57 []],.cells [.fn 110 [.ext 0,.ext 1,.ext 2,.ext 4,.ext 5,.ext 3]],.cells [.fn 108 [.ext 4]]] (.v (.d (.list true 15 r1))) [.cells [.fn 102 [.ext 0]],.cells [.fn 104 []],.cells [.fn 106 [.ext 1,.ext 2,.ext 3]],.cells [.fn 57 []],.cells [.fn 110 [.ext 0,.ext 1,.ext 2,.ext 4,.ext 5,.ext 3]],.cells [.fn 108 [.ext 4]]] []):=by
 induction n using Nat.strongRecOn with | _ n ih=>
 obtain _ | n:=n
 ·refine⟨?_,?_,?_,?_⟩
  ·intro s1 s2 l3 r1 r2 r3 h
   cases (show (none:Option _)=some _ from h)
  ·intro l1 r1 h
   cases (show (none:Option _)=some _ from h)
  ·intro z1 s2 s3 l4 z5 s6 l7 z8 s9 l10 l11 l12 l13 l14 z15 r1 r2 r3 r4 r5 r6 r7 r8 r9 r10 r11 r12 r13 r14 r15 h
   cases (show (none:Option _)=some _ from h)
  intro l1 r1 h
  cases (show (none:Option _)=some _ from h)
 refine⟨?_,?_,?_,?_⟩
 ·intro s1 s2 l3 r1 r2 r3 h
  rw[RA]at h
  refine Ah.of BI Ao Fi Tryz.func108 rfl (by kernel_rfl) rfl rfl rfl (fun M hM hI=>?_)
  try cbv
  refine AB ?_
  try cbv
  refine AB ?_
  try cbv
  replace h:=AU h
  obtain⟨l4,hr,h⟩:=h
  refine AZ rfl rfl ?_
  try cbv
  refine Al hM hI [.ext 1,.ext 2,.ext 3,.ext 4,.ext 0,.ext 5] ((ih _ (by omega)).2.2.2 hr) rfl (by simp) ⟨rfl,⟨rfl,⟨rfl,⟨rfl,⟨rfl,⟨rfl,trivial⟩⟩⟩⟩⟩⟩ ⟨trivial,⟨trivial,⟨trivial,⟨trivial,⟨trivial,⟨trivial,trivial⟩⟩⟩⟩⟩⟩ (by simp) ?_
  clear hr
  try cbv
  refine AB ?_
  try cbv
  obtain⟨rfl,rfl,rfl⟩:=Mv h
  refine AR ?_
  try cbv
  exact⟨[],rfl,rfl,⟨rfl,⟨rfl,⟨rfl,⟨rfl,⟨rfl,⟨rfl,trivial⟩⟩⟩⟩⟩⟩,trivial,trivial⟩
 ·intro l1 r1 h
  rw[NT]at h
  refine Ah.of BI Ao Fi Tryz.func111 rfl (by kernel_rfl) rfl rfl rfl (fun M hM hI=>?_)
  try cbv
  refine AB ?_
  try cbv
  refine AB ?_
  try cbv
  refine AB ?_
  try cbv
  refine AB ?_
  try cbv
  replace h:=BL M h
  obtain⟨z2,hz,h⟩:=h
  refine⟨z2,hz,?_⟩
  clear hz
  try cbv
  refine Cd (T:=Nat×LD×Int) [.slot 5 true 3 95] [1,4,5,8,9,10] [.ext 0,.ext 1,.ext 2,.ext 3,.ext 4,.ext 5,.loc 160] 192 (fun t=>⟨[(1,.v (.c (.fn 108 [.ext 0]))),(4,.v (.c (.nils true 3))),(5,.v (.c (.lst (.loc 160) true 3 t.2.1))),sT 8 3 l1,sI 9 z2,sI 10 t.2.2],[(.ext 0,.cells [.fn 110 [.ext 1,.ext 2,.ext 3,.ext 0,.ext 5,.ext 4]]),(.ext 1,.cells [.fn 102 [.ext 1]]),(.ext 2,.cells [.fn 104 []]),(.ext 3,.cells [.fn 106 [.ext 2,.ext 3,.ext 4]]),(.ext 4,.cells [.fn 57 []]),(.ext 5,.cells [.fn 108 [.ext 0]]),(.loc 160,.tok t.2.1.length 3 95)],192⟩)
    (fun t=>t.1<=n/\DG t.1 l1 z2 t.2.1 t.2.2=some r1) (fun t=>t.1) (n,(([]:LD),(0:Int))) ⟨Nat.le_refl _,h⟩ (by cbv) ?_
  clear h
  rintro⟨m1,l3,z4⟩ ⟨hm1,h⟩
  replace hm1:m1<=n:=hm1
  obtain _ | m1:=m1
  ·replace h:DG 0 l1 z2 l3 z4=some r1:=h
   rw[DG]at h
   cases h
  replace h:DG (m1+1) l1 z2 l3 z4=some r1:=h
  rw[DG]at h
  try cbv
  refine AK 11 [1,4,5,8,9,10,11] [.ext 0,.ext 1,.ext 2,.ext 3,.ext 4,.ext 5,.loc 160] 224 (fun m b=>m<=m1/\Dm m l1 z2 l3 z4 b=some r1) ?_ ?_
  ·try cbv
   refine Bu (fun e=>?_) (fun e=>?_)
   ·replace h:=Aj e h
    clear e
    try cbv
    exact AA (m1,true) [1,4,5,8,9,10,11] [.ext 0,.ext 1,.ext 2,.ext 3,.ext 4,.ext 5,.loc 160] 224 ⟨by omega,h⟩ (by cbv)
   replace h:=Ak (Int.not_lt.2 e) h
   clear e
   try cbv
   exact AA (m1,false) [1,4,5,8,9,10,11] [.ext 0,.ext 1,.ext 2,.ext 3,.ext 4,.ext 5,.loc 160] 224 ⟨by omega,h⟩ (by cbv)
  clear h
  rintro⟨m2,b5⟩ ⟨hm2,h⟩
  try cbv
  replace hm2:m2<=m1:=hm2
  obtain _ | m2:=m2
  ·replace h:Dm 0 l1 z2 l3 z4 b5=some r1:=h
   rw[Dm]at h
   cases h
  replace h:Dm (m2+1) l1 z2 l3 z4 b5=some r1:=h
  rw[Dm]at h
  try cbv
  refine AB ?_
  try cbv
  cases b5
  ·replace h:=Bp h
   try cbv
   refine AB ?_
   try cbv
   obtain rfl:=Option.some.inj h
   refine AR ?_
   try cbv
   exact⟨[],rfl,rfl,⟨rfl,⟨rfl,⟨rfl,⟨rfl,⟨rfl,⟨rfl,trivial⟩⟩⟩⟩⟩⟩,trivial,trivial⟩
  replace h:=Bo h
  try cbv
  refine AB ?_
  try cbv
  refine AB ?_
  try cbv
  replace h:=BT h
  obtain⟨x6,⟨hx0,hx⟩,h⟩:=h
  refine⟨x6,hx0,hx,?_⟩
  clear hx0 hx
  replace h:=FF h
  obtain⟨s7,s8,l9,rfl,h⟩:=h
  try cbv
  replace h:=Jl h
  obtain⟨s10,s11,l12,hr,h⟩:=h
  refine AZ rfl rfl ?_
  try cbv
  refine Al hM hI [.ext 0,.ext 1,.ext 2,.ext 3,.ext 4,.ext 5] ((ih _ (by omega)).1 hr) rfl (by simp) ⟨rfl,⟨rfl,⟨rfl,⟨rfl,⟨rfl,⟨rfl,trivial⟩⟩⟩⟩⟩⟩ ⟨trivial,⟨trivial,⟨trivial,⟨trivial,⟨trivial,⟨trivial,trivial⟩⟩⟩⟩⟩⟩ (by simp) ?_
  clear hr
  try cbv
  refine⟨false,?_⟩
  try cbv
  refine⟨true,?_⟩
  try cbv
  replace h:=Ct h
  obtain⟨l13,hb,hz,h⟩:=h
  refine⟨false,?_⟩
  try cbv
  first | refine⟨rfl,(M.lock_iff _).2 hb,l13,hz,?_⟩ | refine⟨(M.lock_iff _).2 hb,l13,hz,?_⟩
  clear hb hz
  try cbv
  replace h:=Ac h
  obtain⟨z14,hz,h⟩:=h
  refine⟨z14,hz,?_⟩
  clear hz
  try cbv
  exact BP (m2,(l13,z14)) [1,4,5,8,9,10] [.ext 0,.ext 1,.ext 2,.ext 3,.ext 4,.ext 5,.loc 160] 192 ⟨by omega,h⟩ (Nat.lt_succ_of_le (by omega)) (by cbv)
 ·intro z1 s2 s3 l4 z5 s6 l7 z8 s9 l10 l11 l12 l13 l14 z15 r1 r2 r3 r4 r5 r6 r7 r8 r9 r10 r11 r12 r13 r14 r15 h
  rw[NU]at h
  refine Ah.of BI Ao Fi Tryz.func110 rfl (by kernel_rfl) rfl rfl rfl (fun M hM hI=>?_)
  try cbv
  refine AB ?_
  try cbv
  refine AB ?_
  try cbv
  replace h:=AU h
  obtain⟨l16,hr,h⟩:=h
  first | refine .inr (.inl ⟨[],?_⟩) | refine .inl ⟨[],?_⟩
  try cbv
  refine AQ hM hI (jF _ hr) rfl ?_
  clear hr
  try cbv
  replace h:=Jl h
  obtain⟨z17,s18,l19,hr,h⟩:=h
  first | refine .inr (.inr ⟨[.ext 0],?_⟩) | refine .inr ⟨[.ext 0],?_⟩
  try cbv
  refine Al hM hI [.ext 0] (jD _ hr) rfl (by simp) ⟨rfl,trivial⟩ ⟨trivial,trivial⟩ (by simp) ?_
  try cbv
  first | refine⟨(rfl:(_:Option AF)=_),?_⟩ | skip
  try cbv
  clear hr
  try cbv
  replace h:=GY h
  obtain⟨s20,l21,hr,h⟩:=h
  first | refine .inr (.inl ⟨[],?_⟩) | refine .inl ⟨[],?_⟩
  try cbv
  refine AQ hM hI (cH _ hr) rfl ?_
  clear hr
  try cbv
  replace h:=AU h
  obtain⟨l22,hr,h⟩:=h
  first | refine .inr (.inr ⟨[.ext 1,.ext 2,.ext 3],?_⟩) | refine .inr ⟨[.ext 1,.ext 2,.ext 3],?_⟩
  try cbv
  refine Al hM hI [.ext 1,.ext 2,.ext 3] (jH _ hr) rfl (by simp) ⟨rfl,⟨rfl,⟨rfl,trivial⟩⟩⟩ ⟨trivial,⟨trivial,⟨trivial,trivial⟩⟩⟩ (by simp) ?_
  try cbv
  first | refine⟨(rfl:(_:Option AF)=_),?_⟩ | skip
  first | refine⟨(rfl:(_:Option AF)=_),?_⟩ | skip
  first | refine⟨(rfl:(_:Option AF)=_),?_⟩ | skip
  try cbv
  clear hr
  try cbv
  refine drawn ?_ ?_
  ·show _=true
   kernel_rfl
  try cbv
  refine AB ?_
  try cbv
  replace h:=AU h
  obtain⟨l23,hr,h⟩:=h
  first | refine .inr (.inr ⟨[.ext 0,.ext 1,.ext 2,.ext 3,.ext 4,.ext 5],?_⟩) | refine .inr ⟨[.ext 0,.ext 1,.ext 2,.ext 3,.ext 4,.ext 5],?_⟩
  try cbv
  refine Al hM hI [.ext 0,.ext 1,.ext 2,.ext 3,.ext 4,.ext 5] ((ih _ (by omega)).2.2.2 hr) rfl (by simp) ⟨rfl,⟨rfl,⟨rfl,⟨rfl,⟨rfl,⟨rfl,trivial⟩⟩⟩⟩⟩⟩ ⟨trivial,⟨trivial,⟨trivial,⟨trivial,⟨trivial,⟨trivial,trivial⟩⟩⟩⟩⟩⟩ (by simp) ?_
  try cbv
  first | refine⟨(rfl:(_:Option AF)=_),?_⟩ | skip
  first | refine⟨(rfl:(_:Option AF)=_),?_⟩ | skip
  first | refine⟨(rfl:(_:Option AF)=_),?_⟩ | skip
  first | refine⟨(rfl:(_:Option AF)=_),?_⟩ | skip
  first | refine⟨(rfl:(_:Option AF)=_),?_⟩ | skip
  first | refine⟨(rfl:(_:Option AF)=_),?_⟩ | skip
  try cbv
  clear hr
  try cbv
  replace h:=AU h
  obtain⟨l24,hr,h⟩:=h
  first | refine .inr (.inr ⟨[.ext 0,.ext 1,.ext 2,.ext 3,.ext 4,.ext 5],?_⟩) | refine .inr ⟨[.ext 0,.ext 1,.ext 2,.ext 3,.ext 4,.ext 5],?_⟩
  try cbv
  refine Al hM hI [.ext 0,.ext 1,.ext 2,.ext 3,.ext 4,.ext 5] ((ih _ (by omega)).2.2.2 hr) rfl (by simp) ⟨rfl,⟨rfl,⟨rfl,⟨rfl,⟨rfl,⟨rfl,trivial⟩⟩⟩⟩⟩⟩ ⟨trivial,⟨trivial,⟨trivial,⟨trivial,⟨trivial,⟨trivial,trivial⟩⟩⟩⟩⟩⟩ (by simp) ?_
  try cbv
  first | refine⟨(rfl:(_:Option AF)=_),?_⟩ | skip
  first | refine⟨(rfl:(_:Option AF)=_),?_⟩ | skip
  first | refine⟨(rfl:(_:Option AF)=_),?_⟩ | skip
  first | refine⟨(rfl:(_:Option AF)=_),?_⟩ | skip
  first | refine⟨(rfl:(_:Option AF)=_),?_⟩ | skip
  first | refine⟨(rfl:(_:Option AF)=_),?_⟩ | skip
  try cbv
  clear hr
  try cbv
  replace h:=AU h
  obtain⟨l25,hr,h⟩:=h
  first | refine .inr (.inr ⟨[.ext 4,.ext 0,.ext 1,.ext 2,.ext 3,.ext 5],?_⟩) | refine .inr ⟨[.ext 4,.ext 0,.ext 1,.ext 2,.ext 3,.ext 5],?_⟩
  try cbv
  refine Al hM hI [.ext 4,.ext 0,.ext 1,.ext 2,.ext 3,.ext 5] ((ih _ (by omega)).2.1 hr) rfl (by simp) ⟨rfl,⟨rfl,⟨rfl,⟨rfl,⟨rfl,⟨rfl,trivial⟩⟩⟩⟩⟩⟩ ⟨trivial,⟨trivial,⟨trivial,⟨trivial,⟨trivial,⟨trivial,trivial⟩⟩⟩⟩⟩⟩ (by simp) ?_
  try cbv
  first | refine⟨(rfl:(_:Option AF)=_),?_⟩ | skip
  first | refine⟨(rfl:(_:Option AF)=_),?_⟩ | skip
  first | refine⟨(rfl:(_:Option AF)=_),?_⟩ | skip
  first | refine⟨(rfl:(_:Option AF)=_),?_⟩ | skip
  first | refine⟨(rfl:(_:Option AF)=_),?_⟩ | skip
  first | refine⟨(rfl:(_:Option AF)=_),?_⟩ | skip
  try cbv
  clear hr
  try cbv
  replace h:=AU h
  obtain⟨z26,hr,h⟩:=h
  first | refine .inr (.inl ⟨[],?_⟩) | refine .inl ⟨[],?_⟩
  try cbv
  refine AQ hM hI (yH _ hr) rfl ?_
  clear hr
  try cbv
  refine drawn ?_ ?_
  ·show _=true
   kernel_rfl
  try cbv
  refine AB ?_
  try cbv
  obtain⟨rfl,rfl,rfl,rfl,rfl,rfl,rfl,rfl,rfl,rfl,rfl,rfl,rfl,rfl,rfl⟩:=mI h
  refine AR ?_
  try cbv
  exact⟨[],rfl,rfl,⟨rfl,⟨rfl,⟨rfl,⟨rfl,⟨rfl,⟨rfl,trivial⟩⟩⟩⟩⟩⟩,trivial,trivial⟩
 intro l1 r1 h
 rw[FK]at h
 refine Ah.of BI Ao Fi Tryz.func109 rfl (by kernel_rfl) rfl rfl rfl (fun M hM hI=>?_)
 try cbv
 refine AB ?_
 try cbv
 refine AB ?_
 try cbv
 refine AB ?_
 try cbv
 refine AB ?_
 try cbv
 replace h:=BL M h
 obtain⟨z2,hz,h⟩:=h
 refine⟨z2,hz,?_⟩
 clear hz
 try cbv
 refine Cd (T:=Nat×LD×Int) [.slot 5 true 15 50] [1,4,5,8,9,10] [.ext 0,.ext 1,.ext 2,.ext 3,.ext 4,.ext 5,.loc 160] 192 (fun t=>⟨[(1,.v (.c (.fn 110 [.ext 0,.ext 1,.ext 2,.ext 4,.ext 5,.ext 3]))),(4,.v (.c (.nils true 15))),(5,.v (.c (.lst (.loc 160) true 15 t.2.1))),sT 8 15 l1,sI 9 z2,sI 10 t.2.2],[(.ext 0,.cells [.fn 102 [.ext 0]]),(.ext 1,.cells [.fn 104 []]),(.ext 2,.cells [.fn 106 [.ext 1,.ext 2,.ext 3]]),(.ext 3,.cells [.fn 57 []]),(.ext 4,.cells [.fn 110 [.ext 0,.ext 1,.ext 2,.ext 4,.ext 5,.ext 3]]),(.ext 5,.cells [.fn 108 [.ext 4]]),(.loc 160,.tok t.2.1.length 15 50)],192⟩)
   (fun t=>t.1<=n/\DH t.1 l1 z2 t.2.1 t.2.2=some r1) (fun t=>t.1) (n,(([]:LD),(0:Int))) ⟨Nat.le_refl _,h⟩ (by cbv) ?_
 clear h
 rintro⟨m1,l3,z4⟩ ⟨hm1,h⟩
 replace hm1:m1<=n:=hm1
 obtain _ | m1:=m1
 ·replace h:DH 0 l1 z2 l3 z4=some r1:=h
  rw[DH]at h
  cases h
 replace h:DH (m1+1) l1 z2 l3 z4=some r1:=h
 rw[DH]at h
 try cbv
 refine AK 11 [1,4,5,8,9,10,11] [.ext 0,.ext 1,.ext 2,.ext 3,.ext 4,.ext 5,.loc 160] 224 (fun m b=>m<=m1/\Dn m l1 z2 l3 z4 b=some r1) ?_ ?_
 ·try cbv
  refine Bu (fun e=>?_) (fun e=>?_)
  ·replace h:=Aj e h
   clear e
   try cbv
   exact AA (m1,true) [1,4,5,8,9,10,11] [.ext 0,.ext 1,.ext 2,.ext 3,.ext 4,.ext 5,.loc 160] 224 ⟨by omega,h⟩ (by cbv)
  replace h:=Ak (Int.not_lt.2 e) h
  clear e
  try cbv
  exact AA (m1,false) [1,4,5,8,9,10,11] [.ext 0,.ext 1,.ext 2,.ext 3,.ext 4,.ext 5,.loc 160] 224 ⟨by omega,h⟩ (by cbv)
 clear h
 rintro⟨m2,b5⟩ ⟨hm2,h⟩
 try cbv
 replace hm2:m2<=m1:=hm2
 obtain _ | m2:=m2
 ·replace h:Dn 0 l1 z2 l3 z4 b5=some r1:=h
  rw[Dn]at h
  cases h
 replace h:Dn (m2+1) l1 z2 l3 z4 b5=some r1:=h
 rw[Dn]at h
 try cbv
 refine AB ?_
 try cbv
 cases b5
 ·replace h:=Bp h
  try cbv
  refine AB ?_
  try cbv
  obtain rfl:=Option.some.inj h
  refine AR ?_
  try cbv
  exact⟨[],rfl,rfl,⟨rfl,⟨rfl,⟨rfl,⟨rfl,⟨rfl,⟨rfl,trivial⟩⟩⟩⟩⟩⟩,trivial,trivial⟩
 replace h:=Bo h
 try cbv
 refine AB ?_
 try cbv
 refine AB ?_
 try cbv
 replace h:=BT h
 obtain⟨x6,⟨hx0,hx⟩,h⟩:=h
 refine⟨x6,hx0,hx,?_⟩
 clear hx0 hx
 replace h:=DU h
 obtain⟨z7,s8,s9,l10,z11,s12,l13,z14,s15,l16,l17,l18,l19,l20,z21,rfl,h⟩:=h
 try cbv
 replace h:=Mw h
 obtain⟨z22,s23,s24,l25,z26,s27,l28,z29,s30,l31,l32,l33,l34,l35,z36,hr,h⟩:=h
 refine AZ rfl rfl ?_
 try cbv
 refine Al hM hI [.ext 0,.ext 1,.ext 2,.ext 3,.ext 4,.ext 5] ((ih _ (by omega)).2.2.1 hr) rfl (by simp) ⟨rfl,⟨rfl,⟨rfl,⟨rfl,⟨rfl,⟨rfl,trivial⟩⟩⟩⟩⟩⟩ ⟨trivial,⟨trivial,⟨trivial,⟨trivial,⟨trivial,⟨trivial,trivial⟩⟩⟩⟩⟩⟩ (by simp) ?_
 clear hr
 try cbv
 refine⟨false,?_⟩
 try cbv
 refine⟨true,?_⟩
 try cbv
 replace h:=Ct h
 obtain⟨l37,hb,hz,h⟩:=h
 refine⟨false,?_⟩
 try cbv
 first | refine⟨rfl,(M.lock_iff _).2 hb,l37,hz,?_⟩ | refine⟨(M.lock_iff _).2 hb,l37,hz,?_⟩
 clear hb hz
 try cbv
 replace h:=Ac h
 obtain⟨z38,hz,h⟩:=h
 refine⟨z38,hz,?_⟩
 clear hz
 try cbv
 exact BP (m2,(l37,z38)) [1,4,5,8,9,10] [.ext 0,.ext 1,.ext 2,.ext 3,.ext 4,.ext 5,.loc 160] 192 ⟨by omega,h⟩ (Nat.lt_succ_of_le (by omega)) (by cbv)
theorem jL (n:Nat):∀⦃l1 r1⦄,FK n l1=some r1->
  Ah Tryz.prog inv 109 [.d (.list true 15 l1),.c (.fn 110 [.ext 0,.ext 1,.ext 2,.ext 4,.ext 5,.ext 3])] [.cells [.fn 102 [.ext 0]],.cells [.fn 104 []],.cells [.fn 106 [.ext 1,.ext 2,.ext 3]],.cells [.fn 57 []],.cells [.fn 110 [.ext 0,.ext 1,.ext 2,.ext 4,.ext 5,.ext 3]],.cells [.fn 108 [.ext 4]]] (.v (.d (.list true 15 r1))) [.cells [.fn 102 [.ext 0]],.cells [.fn 104 []],.cells [.fn 106 [.ext 1,.ext 2,.ext 3]],.cells [.fn 57 []],.cells [.fn 110 [.ext 0,.ext 1,.ext 2,.ext 4,.ext 5,.ext 3]],.cells [.fn 108 [.ext 4]]] []:=(jK n).2.2.2
noncomputable def jM:BQ:=⟨109,[.q 15,.one (.fn 110 [.ext 0,.ext 1,.ext 2,.ext 4,.ext 5,.ext 3])],[[.fn 102 [.ext 0]],[.fn 104 []],[.fn 106 [.ext 1,.ext 2,.ext 3]],[.fn 57 []],[.fn 110 [.ext 0,.ext 1,.ext 2,.ext 4,.ext 5,.ext 3]],[.fn 108 [.ext 4]]],[⟨.one (.q 15),[[.fn 102 [.ext 0]],[.fn 104 []],[.fn 106 [.ext 1,.ext 2,.ext 3]],[.fn 57 []],[.fn 110 [.ext 0,.ext 1,.ext 2,.ext 4,.ext 5,.ext 3]],[.fn 108 [.ext 4]]],[]⟩],LD,inferInstance,FK⟩
noncomputable def jN:Kz:=⟨jM,fun n=>Cm fun l1 p h w1 w2 w4 w3 l1 l2 e1 e2 e5 e3 xs e4=>by cases e1;cases e2;cases e4;cases e5;cases e3;exact jL n h⟩
def cI (n:Nat) (s1:BA) (z2:Int) (s3:BA) (l4:LD):Option (BA×Int×BA×LD):=
 bO3 (H4 n z2 s3 l4) fun z5 s6 l7=>some (s1,z5,s6,l7)
noncomputable def uT:BX:=⟨112,Tryz.f112,[.agg [.str,.y,.str,.q 3],.p (.ext 0) 0],[[.fn 102 [.ext 0]]],⟨.one (.agg [.str,.y,.str,.q 3]),[[.fn 102 [.ext 0]]],[]⟩,BA×Int×BA×LD,inferInstance,cI,[]⟩
noncomputable def uU:Kz:=sg uT [jE] Tryz.func112 (by kernel_rfl) (by kernel_rfl) (by kernel_rfl)
theorem uV (n:Nat):∀⦃s1 z2 s3 l4 r1 r2 r3 r4⦄,cI n s1 z2 s3 l4=some (r1,r2,r3,r4)->
  Ah Tryz.prog inv 112 [.d (.agg [.str s1,.int .u8 z2,.str s3,.list true 3 l4]),.c (.ptr (.ext 0) 0)] [.cells [.fn 102 [.ext 0]]] (.v (.d (.agg [.str r1,.int .u8 r2,.str r3,.list true 3 r4]))) [.cells [.fn 102 [.ext 0]]] []:=fun s1 z2 s3 l4 r1 r2 r3 r4 h=>uU.ok n [.S s1,.I z2,.S s3,.L l4] _ h _ _ _ _ _ _ rfl rfl rfl rfl _ rfl
mutual
def Fs:Nat->LD->Int->LD->Int->Option LD
 | 0,_,_,_,_=>none
 | n+1,l1,z2,l3,z4=>
  (if z4<z2 then Ge n l1 z2 l3 z4 true else Ge n l1 z2 l3 z4 false)
def Ge:Nat->LD->Int->LD->Int->Bool->Option LD
 | 0,_,_,_,_,_=>none
 | n+1,l1,z2,l3,z4,b5=>
  (if b5=true then Ap l1 z4 fun x6=>Bv x6 fun s7 z8 s9 l10=>bO4 (cI n s7 z8 s9 l10) fun s11 z12 s13 l14=>Dc 64 l3 ([.agg [.str s11,.int .u8 z12,.str s13,.list true 3 l14]]) fun l15=>AJ (IntKind.wrap .i64 (z4+1)) fun z16=>Fs n l1 z2 l15 z16 else some l3)
end
def S2 (n:Nat) (l1:LD):Option LD:=
 AE l1 fun z2=>Fs n l1 z2 ([]:LD) (0:Int)
theorem uW (n:Nat):∀⦃l1 r1⦄,S2 n l1=some r1->
    Ah Tryz.prog inv 115 [.d (.list true 4 l1),.c (.fn 112 [.ext 0])] [.cells [.fn 102 [.ext 0]]] (.v (.d (.list true 4 r1))) [.cells [.fn 102 [.ext 0]]] []:=by
 intro l1 r1 h
 unfold S2 at h
 refine Ah.of BI Ao Fi Tryz.func115 rfl (by kernel_rfl) rfl rfl rfl (fun M hM hI=>?_)
 try cbv
 refine AB ?_
 try cbv
 refine AB ?_
 try cbv
 refine AB ?_
 try cbv
 refine AB ?_
 try cbv
 replace h:=BL M h
 obtain⟨z2,hz,h⟩:=h
 refine⟨z2,hz,?_⟩
 clear hz
 try cbv
 refine Cd (T:=Nat×LD×Int) [.slot 5 true 4 74] [1,4,5,8,9,10] [.ext 0,.loc 160] 192 (fun t=>⟨[(1,.v (.c (.fn 112 [.ext 0]))),(4,.v (.c (.nils true 4))),(5,.v (.c (.lst (.loc 160) true 4 t.2.1))),sT 8 4 l1,sI 9 z2,sI 10 t.2.2],[(.ext 0,.cells [.fn 102 [.ext 0]]),(.loc 160,.tok t.2.1.length 4 74)],192⟩)
   (fun t=>t.1<=n/\Fs t.1 l1 z2 t.2.1 t.2.2=some r1) (fun t=>t.1) (n,(([]:LD),(0:Int))) ⟨Nat.le_refl _,h⟩ (by cbv) ?_
 clear h
 rintro⟨m1,l3,z4⟩ ⟨hm1,h⟩
 replace hm1:m1<=n:=hm1
 obtain _ | m1:=m1
 ·replace h:Fs 0 l1 z2 l3 z4=some r1:=h
  rw[Fs]at h
  cases h
 replace h:Fs (m1+1) l1 z2 l3 z4=some r1:=h
 rw[Fs]at h
 try cbv
 refine AK 11 [1,4,5,8,9,10,11] [.ext 0,.loc 160] 224 (fun m b=>m<=m1/\Ge m l1 z2 l3 z4 b=some r1) ?_ ?_
 ·try cbv
  refine Bu (fun e=>?_) (fun e=>?_)
  ·replace h:=Aj e h
   clear e
   try cbv
   exact AA (m1,true) [1,4,5,8,9,10,11] [.ext 0,.loc 160] 224 ⟨by omega,h⟩ (by cbv)
  replace h:=Ak (Int.not_lt.2 e) h
  clear e
  try cbv
  exact AA (m1,false) [1,4,5,8,9,10,11] [.ext 0,.loc 160] 224 ⟨by omega,h⟩ (by cbv)
 clear h
 rintro⟨m2,b5⟩ ⟨hm2,h⟩
 try cbv
 replace hm2:m2<=m1:=hm2
 obtain _ | m2:=m2
 ·replace h:Ge 0 l1 z2 l3 z4 b5=some r1:=h
  rw[Ge]at h
  cases h
 replace h:Ge (m2+1) l1 z2 l3 z4 b5=some r1:=h
 rw[Ge]at h
 try cbv
 refine AB ?_
 try cbv
 cases b5
 ·replace h:=Bp h
  try cbv
  refine AB ?_
  try cbv
  obtain rfl:=Option.some.inj h
  refine AR ?_
  try cbv
  exact⟨[],rfl,rfl,⟨rfl,trivial⟩,trivial,trivial⟩
 replace h:=Bo h
 try cbv
 refine AB ?_
 try cbv
 refine AB ?_
 try cbv
 replace h:=BT h
 obtain⟨x6,⟨hx0,hx⟩,h⟩:=h
 refine⟨x6,hx0,hx,?_⟩
 clear hx0 hx
 replace h:=M3 h
 obtain⟨s7,z8,s9,l10,rfl,h⟩:=h
 try cbv
 replace h:=aW h
 obtain⟨s11,z12,s13,l14,hr,h⟩:=h
 refine AZ rfl rfl ?_
 try cbv
 refine Al hM hI [.ext 0] (uV _ hr) rfl (by simp) ⟨rfl,trivial⟩ ⟨trivial,trivial⟩ (by simp) ?_
 clear hr
 try cbv
 refine⟨false,?_⟩
 try cbv
 refine⟨true,?_⟩
 try cbv
 replace h:=Ct h
 obtain⟨l15,hb,hz,h⟩:=h
 refine⟨false,?_⟩
 try cbv
 first | refine⟨rfl,(M.lock_iff _).2 hb,l15,hz,?_⟩ | refine⟨(M.lock_iff _).2 hb,l15,hz,?_⟩
 clear hb hz
 try cbv
 replace h:=Ac h
 obtain⟨z16,hz,h⟩:=h
 refine⟨z16,hz,?_⟩
 clear hz
 try cbv
 exact BP (m2,(l15,z16)) [1,4,5,8,9,10] [.ext 0,.loc 160] 192 ⟨by omega,h⟩ (Nat.lt_succ_of_le (by omega)) (by cbv)
noncomputable def uX:BQ:=⟨115,[.q 4,.one (.fn 112 [.ext 0])],[[.fn 102 [.ext 0]]],[⟨.one (.q 4),[[.fn 102 [.ext 0]]],[]⟩],LD,inferInstance,S2⟩
noncomputable def nY:Kz:=⟨uX,fun n=>Cm fun l1 p h w1 w2 w4 w3 l1 l2 e1 e2 e5 e3 xs e4=>by cases e1;cases e2;cases e4;cases e5;cases e3;exact uW n h⟩
def NV (n:Nat) (z1:Int) (s2:BA) (l3:LD) (z4:Int) (s5:BA) (l6:LD) (l7:LD) (z8:Int) (z9:Int) (s10:BA) (s11:BA) (s12:BA) (l13:LD) (l14:LD) (z15:Int) (z16:Int):Option (Int×BA×LD×Int×BA×LD×LD×Int×Int×BA×BA×BA×LD×LD×Int×Int):=
 bO1 (S2 n l3) fun l17=>bO3 (H4 n z4 s5 l6) fun z18 s19 l20=>bO1 (FK n l7) fun l21=>bO8 (H5 n z8 z9 s10 s11 s12 l13 l14 z15) fun z22 z23 s24 s25 s26 l27 l28 z29=>bO1 (fL n z16) fun z30=>some (z1,s2,l17,z18,s19,l20,l21,z22,z23,s24,s25,s26,l27,l28,z29,z30)
noncomputable def jO:BX:=⟨114,Tryz.f114,[.agg [.y,.str,.q 4,.y,.str,.q 3,.q 15,.y,.z,.str,.str,.str,.f 1,.q 8,.z,.z],.p (.ext 0) 0,.p (.ext 1) 0,.p (.ext 2) 0,.p (.ext 4) 0,.p (.ext 5) 0],[[.fn 112 [.ext 1]],[.fn 102 [.ext 1]],[.fn 110 [.ext 1,.ext 3,.ext 4,.ext 2,.ext 6,.ext 5]],[.fn 104 []],[.fn 106 [.ext 3,.ext 4,.ext 5]],[.fn 57 []],[.fn 108 [.ext 2]]],⟨.one (.agg [.y,.str,.q 4,.y,.str,.q 3,.q 15,.y,.z,.str,.str,.str,.f 1,.q 8,.z,.z]),[[.fn 112 [.ext 1]],[.fn 102 [.ext 1]],[.fn 110 [.ext 1,.ext 3,.ext 4,.ext 2,.ext 6,.ext 5]],[.fn 104 []],[.fn 106 [.ext 3,.ext 4,.ext 5]],[.fn 57 []],[.fn 108 [.ext 2]]],[]⟩,Int×BA×LD×Int×BA×LD×LD×Int×Int×BA×BA×BA×LD×LD×Int×Int,inferInstance,NV,[]⟩
noncomputable def jP:Kz:=sg jO [jE,jJ,jN,nY,yG] Tryz.func114 (by kernel_rfl) (by kernel_rfl) (by kernel_rfl)
theorem jQ (n:Nat):∀⦃z1 s2 l3 z4 s5 l6 l7 z8 z9 s10 s11 s12 l13 l14 z15 z16 r1 r2 r3 r4 r5 r6 r7 r8 r9 r10 r11 r12 r13 r14 r15 r16⦄,NV n z1 s2 l3 z4 s5 l6 l7 z8 z9 s10 s11 s12 l13 l14 z15 z16=some (r1,r2,r3,r4,r5,r6,r7,r8,r9,r10,r11,r12,r13,r14,r15,r16)->
  Ah Tryz.prog inv 114 [.d (.agg [.int .u8 z1,.str s2,.list true 4 l3,.int .u8 z4,.str s5,.list true 3 l6,.list true 15 l7,.int .u8 z8,.int .i64 z9,.str s10,.str s11,.str s12,.list false 1 l13,.list true 8 l14,.int .i64 z15,.int .i64 z16]),.c (.ptr (.ext 0) 0),.c (.ptr (.ext 1) 0),.c (.ptr (.ext 2) 0),.c (.ptr (.ext 4) 0),.c (.ptr (.ext 5) 0)] [.cells [.fn 112 [.ext 1]],.cells [.fn 102 [.ext 1]],.cells [.fn 110 [.ext 1,.ext 3,.ext 4,.ext 2,.ext 6,.ext 5]],.cells [.fn 104 []],.cells [.fn 106 [.ext 3,.ext 4,.ext 5]],.cells [.fn 57 []],.cells [.fn 108 [.ext 2]]] (.v (.d (.agg [.int .u8 r1,.str r2,.list true 4 r3,.int .u8 r4,.str r5,.list true 3 r6,.list true 15 r7,.int .u8 r8,.int .i64 r9,.str r10,.str r11,.str r12,.list false 1 r13,.list true 8 r14,.int .i64 r15,.int .i64 r16]))) [.cells [.fn 112 [.ext 1]],.cells [.fn 102 [.ext 1]],.cells [.fn 110 [.ext 1,.ext 3,.ext 4,.ext 2,.ext 6,.ext 5]],.cells [.fn 104 []],.cells [.fn 106 [.ext 3,.ext 4,.ext 5]],.cells [.fn 57 []],.cells [.fn 108 [.ext 2]]] []:=fun z1 s2 l3 z4 s5 l6 l7 z8 z9 s10 s11 s12 l13 l14 z15 z16 r1 r2 r3 r4 r5 r6 r7 r8 r9 r10 r11 r12 r13 r14 r15 r16 h=>jP.ok n [.I z1,.S s2,.L l3,.I z4,.S s5,.L l6,.L l7,.I z8,.I z9,.S s10,.S s11,.S s12,.L l13,.L l14,.I z15,.I z16] _ h _ _ _ _ _ _ rfl rfl rfl rfl _ rfl
mutual
def DI:Nat->LD->Int->LD->Int->Option LD
 | 0,_,_,_,_=>none
 | n+1,l1,z2,l3,z4=>
  (if z4<z2 then Dp n l1 z2 l3 z4 true else Dp n l1 z2 l3 z4 false)
def Dp:Nat->LD->Int->LD->Int->Bool->Option LD
 | 0,_,_,_,_,_=>none
 | n+1,l1,z2,l3,z4,b5=>
  (if b5=true then Ap l1 z4 fun x6=>BU x6 fun z7 s8 l9 z10 s11 l12 l13 z14 z15 s16 s17 s18 l19 l20 z21 z22=>bO16 (NV n z7 s8 l9 z10 s11 l12 l13 z14 z15 s16 s17 s18 l19 l20 z21 z22) fun z23 s24 l25 z26 s27 l28 l29 z30 z31 s32 s33 s34 l35 l36 z37 z38=>Dc 248 l3 ([.agg [.int .u8 z23,.str s24,.list true 4 l25,.int .u8 z26,.str s27,.list true 3 l28,.list true 15 l29,.int .u8 z30,.int .i64 z31,.str s32,.str s33,.str s34,.list false 1 l35,.list true 8 l36,.int .i64 z37,.int .i64 z38]]) fun l39=>AJ (IntKind.wrap .i64 (z4+1)) fun z40=>DI n l1 z2 l39 z40 else some l3)
end
def JN (n:Nat) (l1:LD):Option LD:=
 AE l1 fun z2=>DI n l1 z2 ([]:LD) (0:Int)
theorem jR (n:Nat):∀⦃l1 r1⦄,JN n l1=some r1->
    Ah Tryz.prog inv 113 [.d (.list true 16 l1),.c (.fn 114 [.ext 0,.ext 1,.ext 2,.ext 4,.ext 5])] [.cells [.fn 112 [.ext 1]],.cells [.fn 102 [.ext 1]],.cells [.fn 110 [.ext 1,.ext 3,.ext 4,.ext 2,.ext 6,.ext 5]],.cells [.fn 104 []],.cells [.fn 106 [.ext 3,.ext 4,.ext 5]],.cells [.fn 57 []],.cells [.fn 108 [.ext 2]]] (.v (.d (.list true 16 r1))) [.cells [.fn 112 [.ext 1]],.cells [.fn 102 [.ext 1]],.cells [.fn 110 [.ext 1,.ext 3,.ext 4,.ext 2,.ext 6,.ext 5]],.cells [.fn 104 []],.cells [.fn 106 [.ext 3,.ext 4,.ext 5]],.cells [.fn 57 []],.cells [.fn 108 [.ext 2]]] []:=by
 intro l1 r1 h
 unfold JN at h
 refine Ah.of BI Ao Fi Tryz.func113 rfl (by kernel_rfl) rfl rfl rfl (fun M hM hI=>?_)
 try cbv
 refine AB ?_
 try cbv
 refine AB ?_
 try cbv
 refine AB ?_
 try cbv
 refine AB ?_
 try cbv
 replace h:=BL M h
 obtain⟨z2,hz,h⟩:=h
 refine⟨z2,hz,?_⟩
 clear hz
 try cbv
 refine Cd (T:=Nat×LD×Int) [.slot 5 true 16 45] [1,4,5,8,9,10] [.ext 0,.ext 1,.ext 2,.ext 3,.ext 4,.ext 5,.ext 6,.loc 160] 192 (fun t=>⟨[(1,.v (.c (.fn 114 [.ext 0,.ext 1,.ext 2,.ext 4,.ext 5]))),(4,.v (.c (.nils true 16))),(5,.v (.c (.lst (.loc 160) true 16 t.2.1))),sT 8 16 l1,sI 9 z2,sI 10 t.2.2],[(.ext 0,.cells [.fn 112 [.ext 1]]),(.ext 1,.cells [.fn 102 [.ext 1]]),(.ext 2,.cells [.fn 110 [.ext 1,.ext 3,.ext 4,.ext 2,.ext 6,.ext 5]]),(.ext 3,.cells [.fn 104 []]),(.ext 4,.cells [.fn 106 [.ext 3,.ext 4,.ext 5]]),(.ext 5,.cells [.fn 57 []]),(.ext 6,.cells [.fn 108 [.ext 2]]),(.loc 160,.tok t.2.1.length 16 45)],192⟩)
   (fun t=>t.1<=n/\DI t.1 l1 z2 t.2.1 t.2.2=some r1) (fun t=>t.1) (n,(([]:LD),(0:Int))) ⟨Nat.le_refl _,h⟩ (by cbv) ?_
 clear h
 rintro⟨m1,l3,z4⟩ ⟨hm1,h⟩
 replace hm1:m1<=n:=hm1
 obtain _ | m1:=m1
 ·replace h:DI 0 l1 z2 l3 z4=some r1:=h
  rw[DI]at h
  cases h
 replace h:DI (m1+1) l1 z2 l3 z4=some r1:=h
 rw[DI]at h
 try cbv
 refine AK 11 [1,4,5,8,9,10,11] [.ext 0,.ext 1,.ext 2,.ext 3,.ext 4,.ext 5,.ext 6,.loc 160] 224 (fun m b=>m<=m1/\Dp m l1 z2 l3 z4 b=some r1) ?_ ?_
 ·try cbv
  refine Bu (fun e=>?_) (fun e=>?_)
  ·replace h:=Aj e h
   clear e
   try cbv
   exact AA (m1,true) [1,4,5,8,9,10,11] [.ext 0,.ext 1,.ext 2,.ext 3,.ext 4,.ext 5,.ext 6,.loc 160] 224 ⟨by omega,h⟩ (by cbv)
  replace h:=Ak (Int.not_lt.2 e) h
  clear e
  try cbv
  exact AA (m1,false) [1,4,5,8,9,10,11] [.ext 0,.ext 1,.ext 2,.ext 3,.ext 4,.ext 5,.ext 6,.loc 160] 224 ⟨by omega,h⟩ (by cbv)
 clear h
 rintro⟨m2,b5⟩ ⟨hm2,h⟩
 try cbv
 replace hm2:m2<=m1:=hm2
 obtain _ | m2:=m2
 ·replace h:Dp 0 l1 z2 l3 z4 b5=some r1:=h
  rw[Dp]at h
  cases h
 replace h:Dp (m2+1) l1 z2 l3 z4 b5=some r1:=h
 rw[Dp]at h
 try cbv
 refine AB ?_
 try cbv
 cases b5
 ·replace h:=Bp h
  try cbv
  refine AB ?_
  try cbv
  obtain rfl:=Option.some.inj h
  refine AR ?_
  try cbv
  exact⟨[],rfl,rfl,⟨rfl,⟨rfl,⟨rfl,⟨rfl,⟨rfl,⟨rfl,⟨rfl,trivial⟩⟩⟩⟩⟩⟩⟩,trivial,trivial⟩
 replace h:=Bo h
 try cbv
 refine AB ?_
 try cbv
 refine AB ?_
 try cbv
 replace h:=BT h
 obtain⟨x6,⟨hx0,hx⟩,h⟩:=h
 refine⟨x6,hx0,hx,?_⟩
 clear hx0 hx
 replace h:=FD h
 obtain⟨z7,s8,l9,z10,s11,l12,l13,z14,z15,s16,s17,s18,l19,l20,z21,z22,rfl,h⟩:=h
 try cbv
 replace h:=Mx h
 obtain⟨z23,s24,l25,z26,s27,l28,l29,z30,z31,s32,s33,s34,l35,l36,z37,z38,hr,h⟩:=h
 refine AZ rfl rfl ?_
 try cbv
 refine Al hM hI [.ext 0,.ext 1,.ext 2,.ext 3,.ext 4,.ext 5,.ext 6] (jQ _ hr) rfl (by simp) ⟨rfl,⟨rfl,⟨rfl,⟨rfl,⟨rfl,⟨rfl,⟨rfl,trivial⟩⟩⟩⟩⟩⟩⟩ ⟨trivial,⟨trivial,⟨trivial,⟨trivial,⟨trivial,⟨trivial,⟨trivial,trivial⟩⟩⟩⟩⟩⟩⟩ (by simp) ?_
 clear hr
 try cbv
 refine⟨false,?_⟩
 try cbv
 refine⟨true,?_⟩
 try cbv
 replace h:=Ct h
 obtain⟨l39,hb,hz,h⟩:=h
 refine⟨false,?_⟩
 try cbv
 first | refine⟨rfl,(M.lock_iff _).2 hb,l39,hz,?_⟩ | refine⟨(M.lock_iff _).2 hb,l39,hz,?_⟩
 clear hb hz
 try cbv
 replace h:=Ac h
 obtain⟨z40,hz,h⟩:=h
 refine⟨z40,hz,?_⟩
 clear hz
 try cbv
 exact BP (m2,(l39,z40)) [1,4,5,8,9,10] [.ext 0,.ext 1,.ext 2,.ext 3,.ext 4,.ext 5,.ext 6,.loc 160] 192 ⟨by omega,h⟩ (Nat.lt_succ_of_le (by omega)) (by cbv)
noncomputable def jS:BQ:=⟨113,[.q 16,.one (.fn 114 [.ext 0,.ext 1,.ext 2,.ext 4,.ext 5])],[[.fn 112 [.ext 1]],[.fn 102 [.ext 1]],[.fn 110 [.ext 1,.ext 3,.ext 4,.ext 2,.ext 6,.ext 5]],[.fn 104 []],[.fn 106 [.ext 3,.ext 4,.ext 5]],[.fn 57 []],[.fn 108 [.ext 2]]],[⟨.one (.q 16),[[.fn 112 [.ext 1]],[.fn 102 [.ext 1]],[.fn 110 [.ext 1,.ext 3,.ext 4,.ext 2,.ext 6,.ext 5]],[.fn 104 []],[.fn 106 [.ext 3,.ext 4,.ext 5]],[.fn 57 []],[.fn 108 [.ext 2]]],[]⟩],LD,inferInstance,JN⟩
noncomputable def jT:Kz:=⟨jS,fun n=>Cm fun l1 p h w1 w2 w4 w3 l1 l2 e1 e2 e5 e3 xs e4=>by cases e1;cases e2;cases e4;cases e5;cases e3;exact jR n h⟩
def ZK (n:Nat) (l1:LD):Option LD:=
 bO1 (JN n l1) fun l2=>some l2
noncomputable def nZ:BX:=⟨56,Tryz.f56,[.agg [.q 16],.one (.fn 57 [])],[],⟨.one (.agg [.q 16]),[],[]⟩,LD,inferInstance,ZK,[]⟩
noncomputable def oA:Kz:=sg nZ [jT] Tryz.func56 (by kernel_rfl) (by kernel_rfl) (by kernel_rfl)
def rS (n:Nat) (l1:LD):Option LD:=
 bO1 (ZK n l1) fun l2=>some l2
noncomputable def X23:BX:=⟨23,Tryz.f23,[.agg [.q 16]],[],⟨.one (.agg [.q 16]),[],[]⟩,LD,inferInstance,rS,[]⟩
noncomputable def k23:Kz:=sg X23 [oA] Tryz.func23 (by kernel_rfl) (by kernel_rfl) (by kernel_rfl)
def fM (n:Nat) (z1:Int):Option (Unit):=
 some ()
noncomputable def X58:BX:=⟨58,Tryz.f58,[.z],[],⟨.one (.k 0),[],[]⟩,Unit,inferInstance,fM,[]⟩
noncomputable def yI:Kz:=sg X58 [] Tryz.func58 (by kernel_rfl) (by kernel_rfl) (by kernel_rfl)
theorem yJ (n:Nat):∀⦃z1⦄,fM n z1=some ()->
  Ah Tryz.prog inv 58 [.d (.int .i64 z1)] [] (.v (.d (.int .i64 0))) [] []:=fun z1 h=>yI.ok n [.I z1] _ h _ _ _ _ _ _ rfl rfl rfl rfl _ rfl
mutual
def OM:Nat->Int->Int->BA->BA->BA->LD->LD->Int->Option (Int×Int×BA×BA×BA×LD×LD)
 | 0,_,_,_,_,_,_,_,_=>none
 | n+1,z1,z2,s3,s4,s5,l6,l7,z8=>
  bO2 (Q9 n s5 l6) fun s9 l10=>bO1 (RB n l7) fun l11=>bO0 (fM n z8) (some (z1,z2,s3,s4,s9,l10,l11))
def D6:Nat->LD->Int->LD->Int->Option LD
 | 0,_,_,_,_=>none
 | n+1,l1,z2,l3,z4=>
  (if z4<z2 then FL n l1 z2 l3 z4 true else FL n l1 z2 l3 z4 false)
def FL:Nat->LD->Int->LD->Int->Bool->Option LD
 | 0,_,_,_,_,_=>none
 | n+1,l1,z2,l3,z4,b5=>
  (if b5=true then Ap l1 z4 fun x6=>BD x6 fun z7 z8 s9 s10 s11 l12 l13 z14=>bO7 (OM n z7 z8 s9 s10 s11 l12 l13 z14) fun z15 z16 s17 s18 s19 l20 l21=>Dc 120 l3 ([.agg [.int .u8 z15,.int .i64 z16,.str s17,.str s18,.str s19,.list false 1 l20,.list true 8 l21,.int .i64 0]]) fun l22=>AJ (IntKind.wrap .i64 (z4+1)) fun z23=>D6 n l1 z2 l22 z23 else some l3)
def RB:Nat->LD->Option LD
 | 0,_=>none
 | n+1,l1=>
  AE l1 fun z2=>D6 n l1 z2 ([]:LD) (0:Int)
end
theorem oB (n:Nat):(∀⦃z1 z2 s3 s4 s5 l6 l7 z8 r1 r2 r3 r4 r5 r6 r7⦄,OM n z1 z2 s3 s4 s5 l6 l7 z8=some (r1,r2,r3,r4,r5,r6,r7)->
    Ah Tryz.prog inv 106 [.d (.agg [.int .u8 z1,.int .i64 z2,.str s3,.str s4,.str s5,.list false 1 l6,.list true 8 l7,.int .i64 z8]),.c (.ptr (.ext 0) 0),.c (.ptr (.ext 1) 0),.c (.ptr (.ext 2) 0)] [.cells [.fn 104 []],.cells [.fn 106 [.ext 0,.ext 1,.ext 2]],.cells [.fn 58 []]] (.v (.d (.agg [.int .u8 r1,.int .i64 r2,.str r3,.str r4,.str r5,.list false 1 r6,.list true 8 r7,.int .i64 0]))) [.cells [.fn 104 []],.cells [.fn 106 [.ext 0,.ext 1,.ext 2]],.cells [.fn 58 []]] [])/\
    (∀⦃l1 r1⦄,RB n l1=some r1->
    Ah Tryz.prog inv 107 [.d (.list true 8 l1),.c (.fn 106 [.ext 0,.ext 1,.ext 2])] [.cells [.fn 104 []],.cells [.fn 106 [.ext 0,.ext 1,.ext 2]],.cells [.fn 58 []]] (.v (.d (.list true 8 r1))) [.cells [.fn 104 []],.cells [.fn 106 [.ext 0,.ext 1,.ext 2]],.cells [.fn 58 []]] []):=by
 induction n using Nat.strongRecOn with | _ n ih=>
 obtain _ | n:=n
 ·refine⟨?_,?_⟩
  ·intro z1 z2 s3 s4 s5 l6 l7 z8 r1 r2 r3 r4 r5 r6 r7 h
   cases (show (none:Option _)=some _ from h)
  intro l1 r1 h
  cases (show (none:Option _)=some _ from h)
 refine⟨?_,?_⟩
 ·intro z1 z2 s3 s4 s5 l6 l7 z8 r1 r2 r3 r4 r5 r6 r7 h
  rw[OM]at h
  refine Ah.of BI Ao Fi Tryz.func106 rfl (by kernel_rfl) rfl rfl rfl (fun M hM hI=>?_)
  try cbv
  refine AB ?_
  try cbv
  refine AB ?_
  try cbv
  replace h:=GY h
  obtain⟨s9,l10,hr,h⟩:=h
  first | refine .inr (.inl ⟨[],?_⟩) | refine .inl ⟨[],?_⟩
  try cbv
  refine AQ hM hI (cH _ hr) rfl ?_
  clear hr
  try cbv
  replace h:=AU h
  obtain⟨l11,hr,h⟩:=h
  first | refine .inr (.inr ⟨[.ext 0,.ext 1,.ext 2],?_⟩) | refine .inr ⟨[.ext 0,.ext 1,.ext 2],?_⟩
  try cbv
  refine Al hM hI [.ext 0,.ext 1,.ext 2] ((ih _ (by omega)).2 hr) rfl (by simp) ⟨rfl,⟨rfl,⟨rfl,trivial⟩⟩⟩ ⟨trivial,⟨trivial,⟨trivial,trivial⟩⟩⟩ (by simp) ?_
  try cbv
  first | refine⟨(rfl:(_:Option AF)=_),?_⟩ | skip
  first | refine⟨(rfl:(_:Option AF)=_),?_⟩ | skip
  first | refine⟨(rfl:(_:Option AF)=_),?_⟩ | skip
  try cbv
  clear hr
  try cbv
  replace h:=Vd h
  obtain⟨hr,h⟩:=h
  first | refine .inr (.inl ⟨[],?_⟩) | refine .inl ⟨[],?_⟩
  try cbv
  refine AQ hM hI (yJ _ hr) rfl ?_
  clear hr
  try cbv
  refine drawn ?_ ?_
  ·show _=true
   kernel_rfl
  try cbv
  refine AB ?_
  try cbv
  obtain⟨rfl,rfl,rfl,rfl,rfl,rfl,rfl⟩:=sN h
  refine AR ?_
  try cbv
  exact⟨[],rfl,rfl,⟨rfl,⟨rfl,⟨rfl,trivial⟩⟩⟩,trivial,trivial⟩
 intro l1 r1 h
 rw[RB]at h
 refine Ah.of BI Ao Fi Tryz.func107 rfl (by kernel_rfl) rfl rfl rfl (fun M hM hI=>?_)
 try cbv
 refine AB ?_
 try cbv
 refine AB ?_
 try cbv
 refine AB ?_
 try cbv
 refine AB ?_
 try cbv
 replace h:=BL M h
 obtain⟨z2,hz,h⟩:=h
 refine⟨z2,hz,?_⟩
 clear hz
 try cbv
 refine Cd (T:=Nat×LD×Int) [.slot 5 true 8 39] [1,4,5,8,9,10] [.ext 0,.ext 1,.ext 2,.loc 160] 192 (fun t=>⟨[(1,.v (.c (.fn 106 [.ext 0,.ext 1,.ext 2]))),(4,.v (.c (.nils true 8))),(5,.v (.c (.lst (.loc 160) true 8 t.2.1))),sT 8 8 l1,sI 9 z2,sI 10 t.2.2],[(.ext 0,.cells [.fn 104 []]),(.ext 1,.cells [.fn 106 [.ext 0,.ext 1,.ext 2]]),(.ext 2,.cells [.fn 58 []]),(.loc 160,.tok t.2.1.length 8 39)],192⟩)
   (fun t=>t.1<=n/\D6 t.1 l1 z2 t.2.1 t.2.2=some r1) (fun t=>t.1) (n,(([]:LD),(0:Int))) ⟨Nat.le_refl _,h⟩ (by cbv) ?_
 clear h
 rintro⟨m1,l3,z4⟩ ⟨hm1,h⟩
 replace hm1:m1<=n:=hm1
 obtain _ | m1:=m1
 ·replace h:D6 0 l1 z2 l3 z4=some r1:=h
  rw[D6]at h
  cases h
 replace h:D6 (m1+1) l1 z2 l3 z4=some r1:=h
 rw[D6]at h
 try cbv
 refine AK 11 [1,4,5,8,9,10,11] [.ext 0,.ext 1,.ext 2,.loc 160] 224 (fun m b=>m<=m1/\FL m l1 z2 l3 z4 b=some r1) ?_ ?_
 ·try cbv
  refine Bu (fun e=>?_) (fun e=>?_)
  ·replace h:=Aj e h
   clear e
   try cbv
   exact AA (m1,true) [1,4,5,8,9,10,11] [.ext 0,.ext 1,.ext 2,.loc 160] 224 ⟨by omega,h⟩ (by cbv)
  replace h:=Ak (Int.not_lt.2 e) h
  clear e
  try cbv
  exact AA (m1,false) [1,4,5,8,9,10,11] [.ext 0,.ext 1,.ext 2,.loc 160] 224 ⟨by omega,h⟩ (by cbv)
 clear h
 rintro⟨m2,b5⟩ ⟨hm2,h⟩
 try cbv
 replace hm2:m2<=m1:=hm2
 obtain _ | m2:=m2
 ·replace h:FL 0 l1 z2 l3 z4 b5=some r1:=h
  rw[FL]at h
  cases h
 replace h:FL (m2+1) l1 z2 l3 z4 b5=some r1:=h
 rw[FL]at h
 try cbv
 refine AB ?_
 try cbv
 cases b5
 ·replace h:=Bp h
  try cbv
  refine AB ?_
  try cbv
  obtain rfl:=Option.some.inj h
  refine AR ?_
  try cbv
  exact⟨[],rfl,rfl,⟨rfl,⟨rfl,⟨rfl,trivial⟩⟩⟩,trivial,trivial⟩
 replace h:=Bo h
 try cbv
 refine AB ?_
 try cbv
 refine AB ?_
 try cbv
 replace h:=BT h
 obtain⟨x6,⟨hx0,hx⟩,h⟩:=h
 refine⟨x6,hx0,hx,?_⟩
 clear hx0 hx
 replace h:=FE h
 obtain⟨z7,z8,s9,s10,s11,l12,l13,z14,rfl,h⟩:=h
 try cbv
 replace h:=aX h
 obtain⟨z15,z16,s17,s18,s19,l20,l21,hr,h⟩:=h
 refine AZ rfl rfl ?_
 try cbv
 refine Al hM hI [.ext 0,.ext 1,.ext 2] ((ih _ (by omega)).1 hr) rfl (by simp) ⟨rfl,⟨rfl,⟨rfl,trivial⟩⟩⟩ ⟨trivial,⟨trivial,⟨trivial,trivial⟩⟩⟩ (by simp) ?_
 clear hr
 try cbv
 refine⟨false,?_⟩
 try cbv
 refine⟨true,?_⟩
 try cbv
 replace h:=Ct h
 obtain⟨l22,hb,hz,h⟩:=h
 refine⟨false,?_⟩
 try cbv
 first | refine⟨rfl,(M.lock_iff _).2 hb,l22,hz,?_⟩ | refine⟨(M.lock_iff _).2 hb,l22,hz,?_⟩
 clear hb hz
 try cbv
 replace h:=Ac h
 obtain⟨z23,hz,h⟩:=h
 refine⟨z23,hz,?_⟩
 clear hz
 try cbv
 exact BP (m2,(l22,z23)) [1,4,5,8,9,10] [.ext 0,.ext 1,.ext 2,.loc 160] 192 ⟨by omega,h⟩ (Nat.lt_succ_of_le (by omega)) (by cbv)
theorem uY (n:Nat):∀⦃z1 z2 s3 s4 s5 l6 l7 z8 r1 r2 r3 r4 r5 r6 r7⦄,OM n z1 z2 s3 s4 s5 l6 l7 z8=some (r1,r2,r3,r4,r5,r6,r7)->
  Ah Tryz.prog inv 106 [.d (.agg [.int .u8 z1,.int .i64 z2,.str s3,.str s4,.str s5,.list false 1 l6,.list true 8 l7,.int .i64 z8]),.c (.ptr (.ext 0) 0),.c (.ptr (.ext 1) 0),.c (.ptr (.ext 2) 0)] [.cells [.fn 104 []],.cells [.fn 106 [.ext 0,.ext 1,.ext 2]],.cells [.fn 58 []]] (.v (.d (.agg [.int .u8 r1,.int .i64 r2,.str r3,.str r4,.str r5,.list false 1 r6,.list true 8 r7,.int .i64 0]))) [.cells [.fn 104 []],.cells [.fn 106 [.ext 0,.ext 1,.ext 2]],.cells [.fn 58 []]] []:=(oB n).1
theorem uZ (n:Nat):∀⦃l1 r1⦄,RB n l1=some r1->
  Ah Tryz.prog inv 107 [.d (.list true 8 l1),.c (.fn 106 [.ext 0,.ext 1,.ext 2])] [.cells [.fn 104 []],.cells [.fn 106 [.ext 0,.ext 1,.ext 2]],.cells [.fn 58 []]] (.v (.d (.list true 8 r1))) [.cells [.fn 104 []],.cells [.fn 106 [.ext 0,.ext 1,.ext 2]],.cells [.fn 58 []]] []:=(oB n).2
noncomputable def vA:BQ:=⟨106,[.agg [.y,.z,.str,.str,.str,.f 1,.q 8,.z],.p (.ext 0) 0,.p (.ext 1) 0,.p (.ext 2) 0],[[.fn 104 []],[.fn 106 [.ext 0,.ext 1,.ext 2]],[.fn 58 []]],[⟨.one (.agg [.y,.z,.str,.str,.str,.f 1,.q 8,.k 0]),[[.fn 104 []],[.fn 106 [.ext 0,.ext 1,.ext 2]],[.fn 58 []]],[]⟩],Int×Int×BA×BA×BA×LD×LD,inferInstance,OM⟩
noncomputable def vB:Kz:=⟨vA,fun n=>Cm fun z1 z2 s3 s4 s5 l6 l7 z8 p h w1 w2 w4 w3 l1 l2 e1 e2 e5 e3 xs e4=>by cases e1;cases e2;cases e4;cases e5;cases e3;exact uY n h⟩
mutual
def cJ:Nat->BA->BA->LD->Option (BA×BA×LD)
 | 0,_,_,_=>none
 | n+1,s1,s2,l3=>
  bO1 (Lu n l3) fun l4=>some (s1,s2,l4)
def Ft:Nat->LD->Int->LD->Int->Option LD
 | 0,_,_,_,_=>none
 | n+1,l1,z2,l3,z4=>
  (if z4<z2 then Gf n l1 z2 l3 z4 true else Gf n l1 z2 l3 z4 false)
def Gf:Nat->LD->Int->LD->Int->Bool->Option LD
 | 0,_,_,_,_,_=>none
 | n+1,l1,z2,l3,z4,b5=>
  (if b5=true then Ap l1 z4 fun x6=>Bf x6 fun s7 s8 l9=>bO3 (cJ n s7 s8 l9) fun s10 s11 l12=>Dc 56 l3 ([.agg [.str s10,.str s11,.list true 15 l12]]) fun l13=>AJ (IntKind.wrap .i64 (z4+1)) fun z14=>Ft n l1 z2 l13 z14 else some l3)
def ZL:Nat->LD->Option LD
 | 0,_=>none
 | n+1,l1=>
  AE l1 fun z2=>Ft n l1 z2 ([]:LD) (0:Int)
def ZM:Nat->Int->BA->BA->LD->Int->BA->LD->Int->BA->LD->LD->LD->LD->LD->Int->Option (Int×BA×BA×LD×Int×BA×LD×Int×BA×LD×LD×LD×LD×LD)
 | 0,_,_,_,_,_,_,_,_,_,_,_,_,_,_,_=>none
 | n+1,z1,s2,s3,l4,z5,s6,l7,z8,s9,l10,l11,l12,l13,l14,z15=>
  bO1 (Q8 n l4) fun l16=>bO3 (H4 n z5 s6 l7) fun z17 s18 l19=>bO2 (Q9 n s9 l10) fun s20 l21=>bO1 (RB n l11) fun l22=>bO1 (Lu n l12) fun l23=>bO1 (Lu n l13) fun l24=>bO1 (ZL n l14) fun l25=>bO0 (fM n z15) (some (z1,s2,s3,l16,z17,s18,l19,z8,s20,l21,l22,l23,l24,l25))
def Fu:Nat->LD->Int->LD->Int->Option LD
 | 0,_,_,_,_=>none
 | n+1,l1,z2,l3,z4=>
  (if z4<z2 then Gg n l1 z2 l3 z4 true else Gg n l1 z2 l3 z4 false)
def Gg:Nat->LD->Int->LD->Int->Bool->Option LD
 | 0,_,_,_,_,_=>none
 | n+1,l1,z2,l3,z4,b5=>
  (if b5=true then Ap l1 z4 fun x6=>BJ x6 fun z7 s8 s9 l10 z11 s12 l13 z14 s15 l16 l17 l18 l19 l20 z21=>bO14 (ZM n z7 s8 s9 l10 z11 s12 l13 z14 s15 l16 l17 l18 l19 l20 z21) fun z22 s23 s24 l25 z26 s27 l28 z29 s30 l31 l32 l33 l34 l35=>Dc 264 l3 ([.agg [.int .u8 z22,.str s23,.str s24,.list false 1 l25,.int .u8 z26,.str s27,.list true 3 l28,.int .i64 z29,.str s30,.list false 1 l31,.list true 8 l32,.list true 15 l33,.list true 15 l34,.list true 3 l35,.int .i64 0]]) fun l36=>AJ (IntKind.wrap .i64 (z4+1)) fun z37=>Fu n l1 z2 l36 z37 else some l3)
def Lu:Nat->LD->Option LD
 | 0,_=>none
 | n+1,l1=>
  AE l1 fun z2=>Fu n l1 z2 ([]:LD) (0:Int)
end
theorem vC (n:Nat):(∀⦃s1 s2 l3 r1 r2 r3⦄,cJ n s1 s2 l3=some (r1,r2,r3)->
    Ah Tryz.prog inv 108 [.d (.agg [.str s1,.str s2,.list true 15 l3]),.c (.ptr (.ext 0) 0)] [.cells [.fn 110 [.ext 1,.ext 2,.ext 3,.ext 0,.ext 5,.ext 4]],.cells [.fn 102 [.ext 1]],.cells [.fn 104 []],.cells [.fn 106 [.ext 2,.ext 3,.ext 4]],.cells [.fn 58 []],.cells [.fn 108 [.ext 0]]] (.v (.d (.agg [.str r1,.str r2,.list true 15 r3]))) [.cells [.fn 110 [.ext 1,.ext 2,.ext 3,.ext 0,.ext 5,.ext 4]],.cells [.fn 102 [.ext 1]],.cells [.fn 104 []],.cells [.fn 106 [.ext 2,.ext 3,.ext 4]],.cells [.fn 58 []],.cells [.fn 108 [.ext 0]]] [])/\
    (∀⦃l1 r1⦄,ZL n l1=some r1->
    Ah Tryz.prog inv 111 [.d (.list true 3 l1),.c (.fn 108 [.ext 0])] [.cells [.fn 110 [.ext 1,.ext 2,.ext 3,.ext 0,.ext 5,.ext 4]],.cells [.fn 102 [.ext 1]],.cells [.fn 104 []],.cells [.fn 106 [.ext 2,.ext 3,.ext 4]],.cells [.fn 58 []],.cells [.fn 108 [.ext 0]]] (.v (.d (.list true 3 r1))) [.cells [.fn 110 [.ext 1,.ext 2,.ext 3,.ext 0,.ext 5,.ext 4]],.cells [.fn 102 [.ext 1]],.cells [.fn 104 []],.cells [.fn 106 [.ext 2,.ext 3,.ext 4]],.cells [.fn 58 []],.cells [.fn 108 [.ext 0]]] [])/\
    (∀⦃z1 s2 s3 l4 z5 s6 l7 z8 s9 l10 l11 l12 l13 l14 z15 r1 r2 r3 r4 r5 r6 r7 r8 r9 r10 r11 r12 r13 r14⦄,ZM n z1 s2 s3 l4 z5 s6 l7 z8 s9 l10 l11 l12 l13 l14 z15=some (r1,r2,r3,r4,r5,r6,r7,r8,r9,r10,r11,r12,r13,r14)->
    Ah Tryz.prog inv 110 [.d (.agg [.int .u8 z1,.str s2,.str s3,.list false 1 l4,.int .u8 z5,.str s6,.list true 3 l7,.int .i64 z8,.str s9,.list false 1 l10,.list true 8 l11,.list true 15 l12,.list true 15 l13,.list true 3 l14,.int .i64 z15]),.c (.ptr (.ext 0) 0),.c (.ptr (.ext 1) 0),.c (.ptr (.ext 2) 0),.c (.ptr (.ext 4) 0),.c (.ptr (.ext 5) 0),.c (.ptr (.ext 3) 0)] [.cells [.fn 102 [.ext 0]],.cells [.fn 104 []],.cells [.fn 106 [.ext 1,.ext 2,.ext 3]],.cells [.fn 58 []],.cells [.fn 110 [.ext 0,.ext 1,.ext 2,.ext 4,.ext 5,.ext 3]],.cells [.fn 108 [.ext 4]]] (.v (.d (.agg [.int .u8 r1,.str r2,.str r3,.list false 1 r4,.int .u8 r5,.str r6,.list true 3 r7,.int .i64 r8,.str r9,.list false 1 r10,.list true 8 r11,.list true 15 r12,.list true 15 r13,.list true 3 r14,.int .i64 0]))) [.cells [.fn 102 [.ext 0]],.cells [.fn 104 []],.cells [.fn 106 [.ext 1,.ext 2,.ext 3]],.cells [.fn 58 []],.cells [.fn 110 [.ext 0,.ext 1,.ext 2,.ext 4,.ext 5,.ext 3]],.cells [.fn 108 [.ext 4]]] [])/\
    (∀⦃l1 r1⦄,Lu n l1=some r1->
    Ah Tryz.prog inv 109 [.d (.list true 15 l1),.c (.fn 110 [.ext 0,.ext 1,.ext 2,.ext 4,.ext 5,.ext 3])] [.cells [.fn 102 [.ext 0]],.cells [.fn 104 []],.cells [.fn 106 [.ext 1,.ext 2,.ext 3]],.cells [.fn 58 []],.cells [.fn 110 [.ext 0,.ext 1,.ext 2,.ext 4,.ext 5,.ext 3]],.cells [.fn 108 [.ext 4]]] (.v (.d (.list true 15 r1))) [.cells [.fn 102 [.ext 0]],.cells [.fn 104 []],.cells [.fn 106 [.ext 1,.ext 2,.ext 3]],.cells [.fn 58 []],.cells [.fn 110 [.ext 0,.ext 1,.ext 2,.ext 4,.ext 5,.ext 3]],.cells [.fn 108 [.ext 4]]] []):=by
 induction n using Nat.strongRecOn with | _ n ih=>
 obtain _ | n:=n
 ·refine⟨?_,?_,?_,?_⟩
  ·intro s1 s2 l3 r1 r2 r3 h
   cases (show (none:Option _)=some _ from h)
  ·intro l1 r1 h
   cases (show (none:Option _)=some _ from h)
  ·intro z1 s2 s3 l4 z5 s6 l7 z8 s9 l10 l11 l12 l13 l14 z15 r1 r2 r3 r4 r5 r6 r7 r8 r9 r10 r11 r12 r13 r14 h
   cases (show (none:Option _)=some _ from h)
  intro l1 r1 h
  cases (show (none:Option _)=some _ from h)
 refine⟨?_,?_,?_,?_⟩
 ·intro s1 s2 l3 r1 r2 r3 h
  rw[cJ]at h
  refine Ah.of BI Ao Fi Tryz.func108 rfl (by kernel_rfl) rfl rfl rfl (fun M hM hI=>?_)
  try cbv
  refine AB ?_
  try cbv
  refine AB ?_
  try cbv
  replace h:=AU h
  obtain⟨l4,hr,h⟩:=h
  refine AZ rfl rfl ?_
  try cbv
  refine Al hM hI [.ext 1,.ext 2,.ext 3,.ext 4,.ext 0,.ext 5] ((ih _ (by omega)).2.2.2 hr) rfl (by simp) ⟨rfl,⟨rfl,⟨rfl,⟨rfl,⟨rfl,⟨rfl,trivial⟩⟩⟩⟩⟩⟩ ⟨trivial,⟨trivial,⟨trivial,⟨trivial,⟨trivial,⟨trivial,trivial⟩⟩⟩⟩⟩⟩ (by simp) ?_
  clear hr
  try cbv
  refine AB ?_
  try cbv
  obtain⟨rfl,rfl,rfl⟩:=Mv h
  refine AR ?_
  try cbv
  exact⟨[],rfl,rfl,⟨rfl,⟨rfl,⟨rfl,⟨rfl,⟨rfl,⟨rfl,trivial⟩⟩⟩⟩⟩⟩,trivial,trivial⟩
 ·intro l1 r1 h
  rw[ZL]at h
  refine Ah.of BI Ao Fi Tryz.func111 rfl (by kernel_rfl) rfl rfl rfl (fun M hM hI=>?_)
  try cbv
  refine AB ?_
  try cbv
  refine AB ?_
  try cbv
  refine AB ?_
  try cbv
  refine AB ?_
  try cbv
  replace h:=BL M h
  obtain⟨z2,hz,h⟩:=h
  refine⟨z2,hz,?_⟩
  clear hz
  try cbv
  refine Cd (T:=Nat×LD×Int) [.slot 5 true 3 95] [1,4,5,8,9,10] [.ext 0,.ext 1,.ext 2,.ext 3,.ext 4,.ext 5,.loc 160] 192 (fun t=>⟨[(1,.v (.c (.fn 108 [.ext 0]))),(4,.v (.c (.nils true 3))),(5,.v (.c (.lst (.loc 160) true 3 t.2.1))),sT 8 3 l1,sI 9 z2,sI 10 t.2.2],[(.ext 0,.cells [.fn 110 [.ext 1,.ext 2,.ext 3,.ext 0,.ext 5,.ext 4]]),(.ext 1,.cells [.fn 102 [.ext 1]]),(.ext 2,.cells [.fn 104 []]),(.ext 3,.cells [.fn 106 [.ext 2,.ext 3,.ext 4]]),(.ext 4,.cells [.fn 58 []]),(.ext 5,.cells [.fn 108 [.ext 0]]),(.loc 160,.tok t.2.1.length 3 95)],192⟩)
    (fun t=>t.1<=n/\Ft t.1 l1 z2 t.2.1 t.2.2=some r1) (fun t=>t.1) (n,(([]:LD),(0:Int))) ⟨Nat.le_refl _,h⟩ (by cbv) ?_
  clear h
  rintro⟨m1,l3,z4⟩ ⟨hm1,h⟩
  replace hm1:m1<=n:=hm1
  obtain _ | m1:=m1
  ·replace h:Ft 0 l1 z2 l3 z4=some r1:=h
   rw[Ft]at h
   cases h
  replace h:Ft (m1+1) l1 z2 l3 z4=some r1:=h
  rw[Ft]at h
  try cbv
  refine AK 11 [1,4,5,8,9,10,11] [.ext 0,.ext 1,.ext 2,.ext 3,.ext 4,.ext 5,.loc 160] 224 (fun m b=>m<=m1/\Gf m l1 z2 l3 z4 b=some r1) ?_ ?_
  ·try cbv
   refine Bu (fun e=>?_) (fun e=>?_)
   ·replace h:=Aj e h
    clear e
    try cbv
    exact AA (m1,true) [1,4,5,8,9,10,11] [.ext 0,.ext 1,.ext 2,.ext 3,.ext 4,.ext 5,.loc 160] 224 ⟨by omega,h⟩ (by cbv)
   replace h:=Ak (Int.not_lt.2 e) h
   clear e
   try cbv
   exact AA (m1,false) [1,4,5,8,9,10,11] [.ext 0,.ext 1,.ext 2,.ext 3,.ext 4,.ext 5,.loc 160] 224 ⟨by omega,h⟩ (by cbv)
  clear h
  rintro⟨m2,b5⟩ ⟨hm2,h⟩
  try cbv
  replace hm2:m2<=m1:=hm2
  obtain _ | m2:=m2
  ·replace h:Gf 0 l1 z2 l3 z4 b5=some r1:=h
   rw[Gf]at h
   cases h
  replace h:Gf (m2+1) l1 z2 l3 z4 b5=some r1:=h
  rw[Gf]at h
  try cbv
  refine AB ?_
  try cbv
  cases b5
  ·replace h:=Bp h
   try cbv
   refine AB ?_
   try cbv
   obtain rfl:=Option.some.inj h
   refine AR ?_
   try cbv
   exact⟨[],rfl,rfl,⟨rfl,⟨rfl,⟨rfl,⟨rfl,⟨rfl,⟨rfl,trivial⟩⟩⟩⟩⟩⟩,trivial,trivial⟩
  replace h:=Bo h
  try cbv
  refine AB ?_
  try cbv
  refine AB ?_
  try cbv
  replace h:=BT h
  obtain⟨x6,⟨hx0,hx⟩,h⟩:=h
  refine⟨x6,hx0,hx,?_⟩
  clear hx0 hx
  replace h:=FF h
  obtain⟨s7,s8,l9,rfl,h⟩:=h
  try cbv
  replace h:=Jl h
  obtain⟨s10,s11,l12,hr,h⟩:=h
  refine AZ rfl rfl ?_
  try cbv
  refine Al hM hI [.ext 0,.ext 1,.ext 2,.ext 3,.ext 4,.ext 5] ((ih _ (by omega)).1 hr) rfl (by simp) ⟨rfl,⟨rfl,⟨rfl,⟨rfl,⟨rfl,⟨rfl,trivial⟩⟩⟩⟩⟩⟩ ⟨trivial,⟨trivial,⟨trivial,⟨trivial,⟨trivial,⟨trivial,trivial⟩⟩⟩⟩⟩⟩ (by simp) ?_
  clear hr
  try cbv
  refine⟨false,?_⟩
  try cbv
  refine⟨true,?_⟩
  try cbv
  replace h:=Ct h
  obtain⟨l13,hb,hz,h⟩:=h
  refine⟨false,?_⟩
  try cbv
  first | refine⟨rfl,(M.lock_iff _).2 hb,l13,hz,?_⟩ | refine⟨(M.lock_iff _).2 hb,l13,hz,?_⟩
  clear hb hz
  try cbv
  replace h:=Ac h
  obtain⟨z14,hz,h⟩:=h
  refine⟨z14,hz,?_⟩
  clear hz
  try cbv
  exact BP (m2,(l13,z14)) [1,4,5,8,9,10] [.ext 0,.ext 1,.ext 2,.ext 3,.ext 4,.ext 5,.loc 160] 192 ⟨by omega,h⟩ (Nat.lt_succ_of_le (by omega)) (by cbv)
 ·intro z1 s2 s3 l4 z5 s6 l7 z8 s9 l10 l11 l12 l13 l14 z15 r1 r2 r3 r4 r5 r6 r7 r8 r9 r10 r11 r12 r13 r14 h
  rw[ZM]at h
  refine Ah.of BI Ao Fi Tryz.func110 rfl (by kernel_rfl) rfl rfl rfl (fun M hM hI=>?_)
  try cbv
  refine AB ?_
  try cbv
  refine AB ?_
  try cbv
  replace h:=AU h
  obtain⟨l16,hr,h⟩:=h
  first | refine .inr (.inl ⟨[],?_⟩) | refine .inl ⟨[],?_⟩
  try cbv
  refine AQ hM hI (jF _ hr) rfl ?_
  clear hr
  try cbv
  replace h:=Jl h
  obtain⟨z17,s18,l19,hr,h⟩:=h
  first | refine .inr (.inr ⟨[.ext 0],?_⟩) | refine .inr ⟨[.ext 0],?_⟩
  try cbv
  refine Al hM hI [.ext 0] (jD _ hr) rfl (by simp) ⟨rfl,trivial⟩ ⟨trivial,trivial⟩ (by simp) ?_
  try cbv
  first | refine⟨(rfl:(_:Option AF)=_),?_⟩ | skip
  try cbv
  clear hr
  try cbv
  replace h:=GY h
  obtain⟨s20,l21,hr,h⟩:=h
  first | refine .inr (.inl ⟨[],?_⟩) | refine .inl ⟨[],?_⟩
  try cbv
  refine AQ hM hI (cH _ hr) rfl ?_
  clear hr
  try cbv
  replace h:=AU h
  obtain⟨l22,hr,h⟩:=h
  first | refine .inr (.inr ⟨[.ext 1,.ext 2,.ext 3],?_⟩) | refine .inr ⟨[.ext 1,.ext 2,.ext 3],?_⟩
  try cbv
  refine Al hM hI [.ext 1,.ext 2,.ext 3] (uZ _ hr) rfl (by simp) ⟨rfl,⟨rfl,⟨rfl,trivial⟩⟩⟩ ⟨trivial,⟨trivial,⟨trivial,trivial⟩⟩⟩ (by simp) ?_
  try cbv
  first | refine⟨(rfl:(_:Option AF)=_),?_⟩ | skip
  first | refine⟨(rfl:(_:Option AF)=_),?_⟩ | skip
  first | refine⟨(rfl:(_:Option AF)=_),?_⟩ | skip
  try cbv
  clear hr
  try cbv
  refine drawn ?_ ?_
  ·show _=true
   kernel_rfl
  try cbv
  refine AB ?_
  try cbv
  replace h:=AU h
  obtain⟨l23,hr,h⟩:=h
  first | refine .inr (.inr ⟨[.ext 0,.ext 1,.ext 2,.ext 3,.ext 4,.ext 5],?_⟩) | refine .inr ⟨[.ext 0,.ext 1,.ext 2,.ext 3,.ext 4,.ext 5],?_⟩
  try cbv
  refine Al hM hI [.ext 0,.ext 1,.ext 2,.ext 3,.ext 4,.ext 5] ((ih _ (by omega)).2.2.2 hr) rfl (by simp) ⟨rfl,⟨rfl,⟨rfl,⟨rfl,⟨rfl,⟨rfl,trivial⟩⟩⟩⟩⟩⟩ ⟨trivial,⟨trivial,⟨trivial,⟨trivial,⟨trivial,⟨trivial,trivial⟩⟩⟩⟩⟩⟩ (by simp) ?_
  try cbv
  first | refine⟨(rfl:(_:Option AF)=_),?_⟩ | skip
  first | refine⟨(rfl:(_:Option AF)=_),?_⟩ | skip
  first | refine⟨(rfl:(_:Option AF)=_),?_⟩ | skip
  first | refine⟨(rfl:(_:Option AF)=_),?_⟩ | skip
  first | refine⟨(rfl:(_:Option AF)=_),?_⟩ | skip
  first | refine⟨(rfl:(_:Option AF)=_),?_⟩ | skip
  try cbv
  clear hr
  try cbv
  replace h:=AU h
  obtain⟨l24,hr,h⟩:=h
  first | refine .inr (.inr ⟨[.ext 0,.ext 1,.ext 2,.ext 3,.ext 4,.ext 5],?_⟩) | refine .inr ⟨[.ext 0,.ext 1,.ext 2,.ext 3,.ext 4,.ext 5],?_⟩
  try cbv
  refine Al hM hI [.ext 0,.ext 1,.ext 2,.ext 3,.ext 4,.ext 5] ((ih _ (by omega)).2.2.2 hr) rfl (by simp) ⟨rfl,⟨rfl,⟨rfl,⟨rfl,⟨rfl,⟨rfl,trivial⟩⟩⟩⟩⟩⟩ ⟨trivial,⟨trivial,⟨trivial,⟨trivial,⟨trivial,⟨trivial,trivial⟩⟩⟩⟩⟩⟩ (by simp) ?_
  try cbv
  first | refine⟨(rfl:(_:Option AF)=_),?_⟩ | skip
  first | refine⟨(rfl:(_:Option AF)=_),?_⟩ | skip
  first | refine⟨(rfl:(_:Option AF)=_),?_⟩ | skip
  first | refine⟨(rfl:(_:Option AF)=_),?_⟩ | skip
  first | refine⟨(rfl:(_:Option AF)=_),?_⟩ | skip
  first | refine⟨(rfl:(_:Option AF)=_),?_⟩ | skip
  try cbv
  clear hr
  try cbv
  replace h:=AU h
  obtain⟨l25,hr,h⟩:=h
  first | refine .inr (.inr ⟨[.ext 4,.ext 0,.ext 1,.ext 2,.ext 3,.ext 5],?_⟩) | refine .inr ⟨[.ext 4,.ext 0,.ext 1,.ext 2,.ext 3,.ext 5],?_⟩
  try cbv
  refine Al hM hI [.ext 4,.ext 0,.ext 1,.ext 2,.ext 3,.ext 5] ((ih _ (by omega)).2.1 hr) rfl (by simp) ⟨rfl,⟨rfl,⟨rfl,⟨rfl,⟨rfl,⟨rfl,trivial⟩⟩⟩⟩⟩⟩ ⟨trivial,⟨trivial,⟨trivial,⟨trivial,⟨trivial,⟨trivial,trivial⟩⟩⟩⟩⟩⟩ (by simp) ?_
  try cbv
  first | refine⟨(rfl:(_:Option AF)=_),?_⟩ | skip
  first | refine⟨(rfl:(_:Option AF)=_),?_⟩ | skip
  first | refine⟨(rfl:(_:Option AF)=_),?_⟩ | skip
  first | refine⟨(rfl:(_:Option AF)=_),?_⟩ | skip
  first | refine⟨(rfl:(_:Option AF)=_),?_⟩ | skip
  first | refine⟨(rfl:(_:Option AF)=_),?_⟩ | skip
  try cbv
  clear hr
  try cbv
  replace h:=Vd h
  obtain⟨hr,h⟩:=h
  first | refine .inr (.inl ⟨[],?_⟩) | refine .inl ⟨[],?_⟩
  try cbv
  refine AQ hM hI (yJ _ hr) rfl ?_
  clear hr
  try cbv
  refine drawn ?_ ?_
  ·show _=true
   kernel_rfl
  try cbv
  refine AB ?_
  try cbv
  obtain⟨rfl,rfl,rfl,rfl,rfl,rfl,rfl,rfl,rfl,rfl,rfl,rfl,rfl,rfl⟩:=mH h
  refine AR ?_
  try cbv
  exact⟨[],rfl,rfl,⟨rfl,⟨rfl,⟨rfl,⟨rfl,⟨rfl,⟨rfl,trivial⟩⟩⟩⟩⟩⟩,trivial,trivial⟩
 intro l1 r1 h
 rw[Lu]at h
 refine Ah.of BI Ao Fi Tryz.func109 rfl (by kernel_rfl) rfl rfl rfl (fun M hM hI=>?_)
 try cbv
 refine AB ?_
 try cbv
 refine AB ?_
 try cbv
 refine AB ?_
 try cbv
 refine AB ?_
 try cbv
 replace h:=BL M h
 obtain⟨z2,hz,h⟩:=h
 refine⟨z2,hz,?_⟩
 clear hz
 try cbv
 refine Cd (T:=Nat×LD×Int) [.slot 5 true 15 50] [1,4,5,8,9,10] [.ext 0,.ext 1,.ext 2,.ext 3,.ext 4,.ext 5,.loc 160] 192 (fun t=>⟨[(1,.v (.c (.fn 110 [.ext 0,.ext 1,.ext 2,.ext 4,.ext 5,.ext 3]))),(4,.v (.c (.nils true 15))),(5,.v (.c (.lst (.loc 160) true 15 t.2.1))),sT 8 15 l1,sI 9 z2,sI 10 t.2.2],[(.ext 0,.cells [.fn 102 [.ext 0]]),(.ext 1,.cells [.fn 104 []]),(.ext 2,.cells [.fn 106 [.ext 1,.ext 2,.ext 3]]),(.ext 3,.cells [.fn 58 []]),(.ext 4,.cells [.fn 110 [.ext 0,.ext 1,.ext 2,.ext 4,.ext 5,.ext 3]]),(.ext 5,.cells [.fn 108 [.ext 4]]),(.loc 160,.tok t.2.1.length 15 50)],192⟩)
   (fun t=>t.1<=n/\Fu t.1 l1 z2 t.2.1 t.2.2=some r1) (fun t=>t.1) (n,(([]:LD),(0:Int))) ⟨Nat.le_refl _,h⟩ (by cbv) ?_
 clear h
 rintro⟨m1,l3,z4⟩ ⟨hm1,h⟩
 replace hm1:m1<=n:=hm1
 obtain _ | m1:=m1
 ·replace h:Fu 0 l1 z2 l3 z4=some r1:=h
  rw[Fu]at h
  cases h
 replace h:Fu (m1+1) l1 z2 l3 z4=some r1:=h
 rw[Fu]at h
 try cbv
 refine AK 11 [1,4,5,8,9,10,11] [.ext 0,.ext 1,.ext 2,.ext 3,.ext 4,.ext 5,.loc 160] 224 (fun m b=>m<=m1/\Gg m l1 z2 l3 z4 b=some r1) ?_ ?_
 ·try cbv
  refine Bu (fun e=>?_) (fun e=>?_)
  ·replace h:=Aj e h
   clear e
   try cbv
   exact AA (m1,true) [1,4,5,8,9,10,11] [.ext 0,.ext 1,.ext 2,.ext 3,.ext 4,.ext 5,.loc 160] 224 ⟨by omega,h⟩ (by cbv)
  replace h:=Ak (Int.not_lt.2 e) h
  clear e
  try cbv
  exact AA (m1,false) [1,4,5,8,9,10,11] [.ext 0,.ext 1,.ext 2,.ext 3,.ext 4,.ext 5,.loc 160] 224 ⟨by omega,h⟩ (by cbv)
 clear h
 rintro⟨m2,b5⟩ ⟨hm2,h⟩
 try cbv
 replace hm2:m2<=m1:=hm2
 obtain _ | m2:=m2
 ·replace h:Gg 0 l1 z2 l3 z4 b5=some r1:=h
  rw[Gg]at h
  cases h
 replace h:Gg (m2+1) l1 z2 l3 z4 b5=some r1:=h
 rw[Gg]at h
 try cbv
 refine AB ?_
 try cbv
 cases b5
 ·replace h:=Bp h
  try cbv
  refine AB ?_
  try cbv
  obtain rfl:=Option.some.inj h
  refine AR ?_
  try cbv
  exact⟨[],rfl,rfl,⟨rfl,⟨rfl,⟨rfl,⟨rfl,⟨rfl,⟨rfl,trivial⟩⟩⟩⟩⟩⟩,trivial,trivial⟩
 replace h:=Bo h
 try cbv
 refine AB ?_
 try cbv
 refine AB ?_
 try cbv
 replace h:=BT h
 obtain⟨x6,⟨hx0,hx⟩,h⟩:=h
 refine⟨x6,hx0,hx,?_⟩
 clear hx0 hx
 replace h:=DU h
 obtain⟨z7,s8,s9,l10,z11,s12,l13,z14,s15,l16,l17,l18,l19,l20,z21,rfl,h⟩:=h
 try cbv
 replace h:=SM h
 obtain⟨z22,s23,s24,l25,z26,s27,l28,z29,s30,l31,l32,l33,l34,l35,hr,h⟩:=h
 refine AZ rfl rfl ?_
 try cbv
 refine Al hM hI [.ext 0,.ext 1,.ext 2,.ext 3,.ext 4,.ext 5] ((ih _ (by omega)).2.2.1 hr) rfl (by simp) ⟨rfl,⟨rfl,⟨rfl,⟨rfl,⟨rfl,⟨rfl,trivial⟩⟩⟩⟩⟩⟩ ⟨trivial,⟨trivial,⟨trivial,⟨trivial,⟨trivial,⟨trivial,trivial⟩⟩⟩⟩⟩⟩ (by simp) ?_
 clear hr
 try cbv
 refine⟨false,?_⟩
 try cbv
 refine⟨true,?_⟩
 try cbv
 replace h:=Ct h
 obtain⟨l36,hb,hz,h⟩:=h
 refine⟨false,?_⟩
 try cbv
 first | refine⟨rfl,(M.lock_iff _).2 hb,l36,hz,?_⟩ | refine⟨(M.lock_iff _).2 hb,l36,hz,?_⟩
 clear hb hz
 try cbv
 replace h:=Ac h
 obtain⟨z37,hz,h⟩:=h
 refine⟨z37,hz,?_⟩
 clear hz
 try cbv
 exact BP (m2,(l36,z37)) [1,4,5,8,9,10] [.ext 0,.ext 1,.ext 2,.ext 3,.ext 4,.ext 5,.loc 160] 192 ⟨by omega,h⟩ (Nat.lt_succ_of_le (by omega)) (by cbv)
theorem vD (n:Nat):∀⦃l1 r1⦄,Lu n l1=some r1->
  Ah Tryz.prog inv 109 [.d (.list true 15 l1),.c (.fn 110 [.ext 0,.ext 1,.ext 2,.ext 4,.ext 5,.ext 3])] [.cells [.fn 102 [.ext 0]],.cells [.fn 104 []],.cells [.fn 106 [.ext 1,.ext 2,.ext 3]],.cells [.fn 58 []],.cells [.fn 110 [.ext 0,.ext 1,.ext 2,.ext 4,.ext 5,.ext 3]],.cells [.fn 108 [.ext 4]]] (.v (.d (.list true 15 r1))) [.cells [.fn 102 [.ext 0]],.cells [.fn 104 []],.cells [.fn 106 [.ext 1,.ext 2,.ext 3]],.cells [.fn 58 []],.cells [.fn 110 [.ext 0,.ext 1,.ext 2,.ext 4,.ext 5,.ext 3]],.cells [.fn 108 [.ext 4]]] []:=(vC n).2.2.2
noncomputable def vE:BQ:=⟨109,[.q 15,.one (.fn 110 [.ext 0,.ext 1,.ext 2,.ext 4,.ext 5,.ext 3])],[[.fn 102 [.ext 0]],[.fn 104 []],[.fn 106 [.ext 1,.ext 2,.ext 3]],[.fn 58 []],[.fn 110 [.ext 0,.ext 1,.ext 2,.ext 4,.ext 5,.ext 3]],[.fn 108 [.ext 4]]],[⟨.one (.q 15),[[.fn 102 [.ext 0]],[.fn 104 []],[.fn 106 [.ext 1,.ext 2,.ext 3]],[.fn 58 []],[.fn 110 [.ext 0,.ext 1,.ext 2,.ext 4,.ext 5,.ext 3]],[.fn 108 [.ext 4]]],[]⟩],LD,inferInstance,Lu⟩
noncomputable def vF:Kz:=⟨vE,fun n=>Cm fun l1 p h w1 w2 w4 w3 l1 l2 e1 e2 e5 e3 xs e4=>by cases e1;cases e2;cases e4;cases e5;cases e3;exact vD n h⟩
end Go.Proofs.YtjmofeakajdbiaaGreatDoor
end
