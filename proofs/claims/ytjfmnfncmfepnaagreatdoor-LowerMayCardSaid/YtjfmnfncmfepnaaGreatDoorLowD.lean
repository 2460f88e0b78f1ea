/- Part of a proof. No condition. (Part 4.) -/
import Derived.KernelRfl
import Derived.Shelf.Strings.Fields
import Derived.Lib.LaidTab
import Derived.Lib.ItoaNum
import Derived.Shelf.Strings.Builder1
import Derived.Shelf.Strings.Builder2
import Derived.Shelf.Strings.OnBuilder
import Derived.Shelf.Strings.BuilderF
import Derived.Shelf.Strings.BuilderK
import Derived.Shelf.Strings.Builder2Cap
import Derived.Shelf.Strconv.Itoa0
import Derived.Shelf.Strconv.Itoa1
import Derived.Shelf.LaysM
import Derived.Shelf.Strconv.Itoa2
import Derived.Shelf.Strconv.Itoa3
import Derived.Shelf.Strconv.Itoa4
import Derived.Shelf.Strings.SplitShaped
import Derived.Shelf.Unicode.Latin
import Derived.Shelf.Unicode.Is16White
import Derived.Shelf.Unicode.IsSpaceAny
import Derived.Shelf.Unicode.Is16WhiteD
import Derived.Shelf.Unicode.IsSpaceAnyD
import Derived.Shelf.Strings.FieldsAny
import Derived.Shelf.Strings.FieldsFuncAny
import Derived.Shelf.Unicode.Is16Any
import Derived.Shelf.Unicode.Is32Any
import Derived.Shelf.Unicode.ExclAny
import Derived.Shelf.Strings.FieldsFuncGrows
import Derived.Shelf.Strings.BuilderCap
import Derived.Shelf.Slices.Turned
import Derived.Shelf.Slices.Equal
import Derived.Ground.Names2Prog
import Derived.Shelf.Slices.Clone
import Derived.Shelf.Slices.Empties2
import Derived.Test.YtjfmnfncmfepnaaGreatDoorProg
import Derived.Lib.AppendIntMem
import Derived.Test.YtjfmnfncmfepnaaGreatDoorLowC
set_option linter.unusedVariables false
set_option linter.unusedSimpArgs false
set_option linter.unusedSectionVars false
namespace Go.AM
open Go Go.RowKit
section
variable {α β γ:Type}
def bS (x:Option (α ⊕ β)) (k1:α→Option γ) (k2:β→Option γ):Option γ:=
 match x with
 | some (.inl a)=>k1 a
 | some (.inr b)=>k2 b
 | none=>none
end
section
variable {γ:Type}
def Aw (b:Bool) (k:Bool→Option γ):Option γ:=k b
def findF (e:Bool) (key:D) (rows:List D) (k1:D→Option γ) (k0:Option γ):Option γ:=
 match GC e key rows with
 | some (some y)=>k1 y
 | some none=>k0
 | none=>none
theorem Oe {e:Bool}{key:D}{rows:List D}{k1:D→Option γ}{k0:Option γ}{r:γ}(h:findF e key rows k1 k0=some r):(∃y,GC e key rows=some (some y)∧k1 y=some r)∨(GC e key rows=some none∧k0=some r):=by
 unfold findF at h
 grind
def CO (key:D) (ws rows:List D) (k:List D→Option γ):Option γ:=
 match Kb key ws rows with
 | some r=>k r
 | none=>none
theorem Ys {key:D}{ws rows:List D}{k:List D→Option γ}{r:γ}(h:CO key ws rows k=some r):∃out,Kb key ws rows=some out∧k out=some r:=by
 unfold CO at h
 grind
end
def cL:Code→Code
 | .seq a _=>a
 | .cond _ a _=>a
 | .block _ b=>b
 | .loop b=>b
 | .rangeFunc _ _ a _=>a
 | c=>c
def cR:Code→Code
 | .seq _ b=>b
 | .cond _ _ b=>b
 | .rangeFunc _ _ _ b=>b
 | c=>c
def cP:Code→Array Tmp
 | .rangeFunc _ p _ _=>p
 | _=>#[]
def UQ (fn:Func):Code:=
 match fn.body with
 | some c=>c
 | none=>.skip
def qQ (s:AL):List (Nat×AV)→Prop
 | []=>True
 | (t,v)::r=>s t=v∧qQ s r
theorem SL {s:AL}:∀{sl:List (Nat×AV)},qQ s sl→∀t,AQ sl t= .u∨AQ sl t=s t
 | [],_,_=>.inl rfl
 | (k,v)::r,h,t=>by
  show (match Nat.beq k t with | true=>v | false=>AQ r t)= .u∨(match Nat.beq k t with | true=>v | false=>AQ r t)=s t
  cases e:Nat.beq k t with
  | true=>exact .inr (by rw[←Nat.eq_of_beq_eq_true e];exact h.1.symm)
  | false=>exact SL h.2 t
section
variable {ea eb:St→(Cm→St→Prop)→Prop}{K:Cm→St→Prop}
theorem Ja {M:Au}{σ:St}(h:ea σ fun e σ'=>match e with
  | .normal=>eb σ' K
  | .exit id=>K (.exit id) σ'
  | .ret=>K .ret σ'):M.lock fun _=>jK ea eb σ K:=(M.lock_iff _).2 (.inl h)
theorem Yt {M:Au}{σ:St}{T:Type}(S:T→St) (I:T→Prop)
  (ha:ea σ fun e σ'=>match e with
   | .normal=>∃σ'',BM σ' σ''∧∃t,I t∧σ''=S t
   | .exit id=>K (.exit id) σ'
   | .ret=>K .ret σ') (hb:∀t,I t→eb (S t) K):M.lock fun _=>jK ea eb σ K:=by
 refine (M.lock_iff _).2 (.inr ⟨fun σ=>∃t,I t∧σ=S t,ha,?_⟩)
 simp_all
theorem Og {T:Type}{I:T→Prop}{S:T→St}{σ2:St}(t':T) (ks:List Nat) (is:List Id) (nx:Nat) (hI:I t') (hk:UB ks is nx σ2 (·=S t')):
  ∃σ'',BM σ2 σ''∧∃t,I t∧σ''=S t:=by
 obtain⟨σ',hw,e⟩:=Wl hk
 grind
end
section
variable {M:Au}{P:Program}{I:Inv}
section
variable {ti:Types}{sl:List (Nat×AV)}{pre:List AD}
theorem E2.of' (hti:Ax P ti) (h1:BG ti) (hm:P.follows .mixedOrders=true) {r:RF}{args:List V1}{Q:Jump→List AD→List AD→Prop}{nt:Nat}{ps:List Tmp}{ca cb:Code}
  (hnt:r.nt=nt) (hpl:r.params.toList=ps) (ha:r.assign=ca) (hb:r.body=cb) (hlen:args.length=ps.length) (hps:BZ (fun p=>Nat.blt p nt) ps=true)
  (hx:∀M:Au,M.P=P→M.I=I→exec M ti nt (BI ti M nt) ca ⟨R9 ps args sl,Bi pre 0,0⟩ fun e σ=>match e with
   | .normal=>exec M ti nt (BI ti M nt) cb σ fun e σ=>∃post new,Q (D9 e) post new∧qK σ post new
   | _=>False):E2 P I r sl args pre Q:=by
 subst hnt
 subst hpl
 subst ha
 subst hb
 exact E2.intro (fun M nt=>BI ti M nt) hti h1 (Po hti h1 hm) (by simpa using hlen) hps hx
variable {targs:List V1}{post new:List AD}
theorem kG {A X:Prop}{o:Oper}{c:Call}{f:Operand}{fresh:Nat}{σ:St}{K:St→Prop}{i:Id}{r:Unit→RF}{sl0:List (Nat×AV)}{xs:List V1}{j:Jump}
  (hP:M.P=P) (hI:M.I=I) (m:List Id) (ho:o.op= .call c) (hc:c.callee= .value f) (hf:AX ti (AQ σ.slots) 0 f= .v (.c (.yl i))) (hr:AJ σ.heap i=some (.rnd r sl))
  (hR:E2 P I (r ()) sl0 targs pre fun j' p n=>j'=j∧p=post∧n=new) (hxs:GB (Bf ti (AQ σ.slots) c.args.toList c.argTypes.toList)=some xs)
  (he:xs=targs.map (V1.Az (BF (m++[i]) fresh))) (hsl:sl=nJ (BF (m++[i]) fresh) sl0) (hm:(m++[i]).Nodup) (hpre:SB (AJ σ.heap) (BF (m++[i]) fresh) m pre) (hkd:Bc pre post) (hn:new.length≤31)
  (hk:K ⟨Ck σ.slots o.dst (.v (.d (.bool j.isNone))),Cb σ.heap (Kk (m++[i]) (BF (m++[i]) fresh) (post++[Dm j r sl0])++Cf fresh (BF (m++[i]) fresh) 0 new),fresh⟩):
  M.lock fun _=>A∨(OO M ti o fresh σ K∨X):=by
 refine jT (.inl ?_)
 unfold OO
 rw[ho]
 simp only[]
 rw[hc]
 simp only[]
 refine⟨⟨σ.slots,σ.heap,fresh⟩,BM.refl _,rfl,?_⟩
 simp only[hf]
 unfold withArgs
 rw[hxs]
 simp only[hr]
 refine⟨m,targs,pre,sl0,_,hP▸hI▸hR,he,hsl,(Dp hpre).1,hm,(Dp hpre).2,?_⟩
 simp_all
theorem UR {nt:Nat}{g:Operand}{ps:Array Tmp}{assign body:Code}{σ:St}{K:Cm→St→Prop}{n:FuncId}{cap:List Id}{res:AV}
  (hP:M.P=P) (hI:M.I=I) (m:List Id) (sl:List (Nat×AV)) (hg:AX ti (AQ σ.slots) 0 g= .v (.c (.fn n cap))) (hsl:qQ (AQ σ.slots) sl)
  (ht:Ct P I n targs pre res post new) (he:(V1.c (.yl (.loc σ.next))::cap.map fun i=>V1.c (.ptr i 0))=targs.map (V1.Az (BF m (σ.next+32)))) (hm:m.Nodup)
  (hpre:SB (AJ (Cj σ.heap (.loc σ.next) (.rnd (fun _=>⟨ps,assign,body,nt⟩) sl))) (BF m (σ.next+32)) m pre) (hkd:Bc pre post) (hn:new.length≤31)
  (hk:match AJ (Cb (Cj σ.heap (.loc σ.next) (.rnd (fun _=>⟨ps,assign,body,nt⟩) sl)) (Kk m (BF m (σ.next+32)) post++Cf (σ.next+32) (BF m (σ.next+32)) 0 new)) (.loc σ.next)with
   | some (.rnd _ _)=>K .normal ⟨σ.slots,Cj (Cb (Cj σ.heap (.loc σ.next) (.rnd (fun _=>⟨ps,assign,body,nt⟩) sl)) (Kk m (BF m (σ.next+32)) post++Cf (σ.next+32) (BF m (σ.next+32)) 0 new)) (.loc σ.next) .gone,σ.next+64⟩
   | some (.rndX j)=>(match j with
    | none=>K .ret ⟨σ.slots,Cj (Cb (Cj σ.heap (.loc σ.next) (.rnd (fun _=>⟨ps,assign,body,nt⟩) sl)) (Kk m (BF m (σ.next+32)) post++Cf (σ.next+32) (BF m (σ.next+32)) 0 new)) (.loc σ.next) .gone,σ.next+64⟩
    | some id=>K (.exit id) ⟨σ.slots,Cj (Cb (Cj σ.heap (.loc σ.next) (.rnd (fun _=>⟨ps,assign,body,nt⟩) sl)) (Kk m (BF m (σ.next+32)) post++Cf (σ.next+32) (BF m (σ.next+32)) 0 new)) (.loc σ.next) .gone,σ.next+64⟩)
   | _=>False):
  M.lock fun _=>T9 M ti nt g ps assign body σ K:=by
 refine (M.lock_iff _).2 ⟨σ,BM.refl _,?_⟩
 rw[hg]
 refine⟨sl,SL hsl,m,targs,pre,_,hP▸hI▸ht,he,(Dp hpre).1,hm,(Dp hpre).2,?_⟩
 rintro res' post' new' ⟨rfl,rfl,rfl⟩
 trivial
end
end
end Go.AM
namespace Go.AM
open Go
def slB (d:Nat) (b:Bool) (l:List (Nat×AV)):List Nat→List (Nat×AV)
 | []=>[]
 | k::r=>(match Nat.beq k d with
  | true=>(k,.v (.d (.bool b)))
  | false=>(k,AQ l k))::slB d b l r
def hpB (h:List (Id×AD)):List Id→List (Id×AD)
 | []=>[]
 | i::r=>(match AJ h i with
  | some o=>(i,o)::hpB h r
  | none=>hpB h r)
def stB (d:Nat) (ks:List Nat) (is:List Id) (nx:Nat) (σ:St) (b:Bool):St:=⟨slB d b σ.slots ks,hpB σ.heap is,nx⟩
theorem XA {M:Au}{ea eb:St→(Cm→St→Prop)→Prop}{σ:St}{K:Cm→St→Prop}(d:Nat) (ks:List Nat) (is:List Id) (nx:Nat) (I:Nat→Bool→Prop)
  (ha:ea σ fun e σ'=>match e with
   | .normal=>∃σ'',BM σ' σ''∧∃t:Nat×Bool,I t.1 t.2∧σ''=stB d ks is nx σ t.2
   | .exit id=>K (.exit id) σ'
   | .ret=>K .ret σ') (hb:∀t:Nat×Bool,I t.1 t.2→eb (stB d ks is nx σ t.2) K):M.lock fun _=>jK ea eb σ K:=
 Yt (fun t:Nat×Bool=>stB d ks is nx σ t.2) (fun t=>I t.1 t.2) ha hb
end Go.AM
namespace Go.AM
open Go Go.RowKit
theorem Hu {P:Program}{fn:Func}{tmps:Array Value}{R:Ending→World→Prop}:∀(ds:List Nat) (w:World) (fr:Frame) (cs:List Frame),fr.mode= .returning→fr.defers=ds.map C5→fr.tmps=tmps→
  P.funcs[fr.fn]?=some fn→LeavesInM Fence.wide 0 P fn tmps R (ds.map C5) .returning w→
  ∃v w' fr',R (.returned v) w'∧StepsIn (Machine.fenced P Fence.wide) P (lone fr cs w) (lone fr' cs w')∧fr'.kind=fr.kind∧fr'.fn=fr.fn∧fr'.going P w' (.returned v)
 | [],w,fr,cs,hm,hd,ht,hf,h=>by
  obtain⟨v,hr,hR⟩:=h
  exact⟨v,w,fr,hR,.refl _,rfl,rfl,hm,hd,fn,hf,ht▸hr⟩
 | r::ds,w,fr,cs,hm,hd,ht,hf,h=>by
  obtain⟨hrun,⟨r',w1,htar,htake,hrest⟩ | ⟨_,fv,cap,f,args,htar,_⟩⟩:=h
  ·have h1:=step_collected (P:=P) (cs:=cs) (w:=w) (hm▸hrun) hd htar htake
   have i1:(lone fr cs w).fenced P Fence.wide:=fenced_out (n:=0) trivial (room_wide _) (hm▸hrun) hd (fun g hg=>by trivial)
   obtain⟨v,w',fr',hR,hs,hk,hfn,hg⟩:=Hu ds w1 {fr with defers:=[]++ds.map C5} cs hm rfl ht hf hrest
   exact⟨v,w',fr',hR,StepsIn.trans (.one i1 h1) hs,hk,hfn,hg⟩
  ·cases htar
section
variable {P:Program}{f:FuncId}{fn:Func}{c:Code}
theorem MC {args:Array Value}{u:FrameMode}{w:World}{R:Ending→World→Prop}
  (hf:P.funcs[f]?=some fn) (hb:fn.body=some c)
  (h:c.wpIn Fence.wide 0 P (fun e a' w'=>match e with
   | .normal=>(∃ds:List Nat,a'.defers=ds.map C5)∧LeavesInM Fence.wide 0 P fn a'.tmps R a'.defers .returning w'
   | .ret=>(∃ds:List Nat,a'.defers=ds.map C5)∧LeavesInM Fence.wide 0 P fn a'.tmps R a'.defers .returning w'
   | _=>False) {tmps:=args++Array.replicate (fn.ntmps - args.size) undef,defers:=[]} w):CallsDIn Fence.wide 0 P f args u w fun e u' w'=>u'=u∧R e w':=by
 refine⟨trivial,fun c₀ cs hu hr=>?_⟩
 let b:Frame:={(default:Frame)with fn:=f,kind:=.deferred,roundOf:=none}
 have henter:Frame.enter P f args .deferred=
   b.atR {tmps:=args++Array.replicate (fn.ntmps - args.size) undef,defers:=[]} [.code c]:=by
  simp[Frame.enter,Frame.atR,hf,hb,b]
 have hc:({c₀ with mode:=u}:Frame)=c₀:=by subst hu;rfl
 obtain⟨e,a',w',hq,harr⟩:=h b [] (c₀::cs) rfl trivial hr
 rw[←henter]at harr
 cases e with
 | normal=>
  obtain⟨⟨ds,hds⟩,hq⟩:=hq
  rw[hds]at hq
  obtain⟨v,w2,fr',hR,hs,hk,hfn,hg⟩:=Hu (P:=P) (fn:=fn) ds w' {b.atR a' []with mode:=.returning} (c₀::cs) rfl hds rfl hf hq
  refine⟨.returned v,u,w2,fr',⟨rfl,hR⟩,?_,hk,hfn,hg⟩
  rw[hc]
  exact StepsIn.trans (StepsIn.trans harr (.one (fenced_calm (fr:=b.atR a' []) trivial hr rfl) (stepR_end rfl))) hs
 | ret=>
  obtain⟨⟨ds,hds⟩,hq⟩:=hq
  obtain⟨todo,hs0⟩:=harr.1 rfl
  rw[hds]at hq
  obtain⟨v,w2,fr',hR,hs,hk,hfn,hg⟩:=Hu (P:=P) (fn:=fn) ds w' {b.atR a' todo with mode:=.returning} (c₀::cs) rfl hds rfl hf hq
  refine⟨.returned v,u,w2,fr',⟨rfl,hR⟩,?_,hk,hfn,hg⟩
  rw[hc]
  exact StepsIn.trans hs0 hs
 | exit id=>exact hq.elim
 | goto l=>exact hq.elim
 | panic ch=>exact hq.elim
 | outgrown=>exact hq.elim
def SM (P:Program) (I:Inv) (f:FuncId) (args:List V1) (pre:List AD) (Q:AV→List AD→List AD→Prop):Prop:=
 (∃fn c,P.funcs[f]?=some fn∧fn.body=some c∧(fn.name== "runtime.NumGoroutine")=false)∧
 ∀w X g (vals:Array Value),(∀b o,X b o→b<w.heap.size)→I.at w (Ar (zone g (Ad pre)) X)→C0 w X g (Ad pre)→(∀n,g (.loc n)=undef)→vals.size=args.length→
  (∀(j:Nat) x v,args[j]?=some x→vals[j]?=some v→Ag w (Ar (zone g (Ad pre)) X) g (Ad pre) x v)→
  CallsDIn Fence.wide 0 P f vals .returning w fun e u' w'=>u'= .returning∧∃v g' res post new,Q res post new∧e= .returned v∧CS w X g pre res post new v w' g'
variable {args:List V1}{ti:Types}{pre:List AD}{Q:AV→List AD→List AD→Prop}
theorem SM.intro {I:Inv}(dr:Au→Nat→Pf) (hti:Ax P ti) (h1:BG ti) (hdr:∀C:Cx,C.P=P→Fo C (dr C.M C.nt)) (hf:P.funcs[f]?=some fn) (hb:fn.body=some c)
  (hname:(fn.name== "runtime.NumGoroutine")=false) (hargs:args.length≤fn.ntmps)
  (hx:∀M:Au,M.P=P→M.I=I→exec M ti fn.ntmps (dr M fn.ntmps) c ⟨slotsOf args 0,Bi pre 0,0⟩ fun e σ=>match e with
   | .exit _=>False
   | .normal=>∃res post new,Q res post new∧Ho ti fn.results.toList σ res post new
   | .ret=>∃res post new,Q res post new∧Ho ti fn.results.toList σ res post new):SM P I f args pre Q:=
 ⟨⟨fn,c,hf,hb,hname⟩,fun w X g vals hX hI RH hg hsz hargs'=>MC hf hb (EP.body dr hti h1 hdr hf hb hname hargs hx w X g vals hX hI RH hg hsz hargs')⟩
def Ee (M:Au) (ti:Types) (rs:List ResultVar) (Q:AV→List AD→List AD→Prop) (f:Nat) (cs:List FC):List D→St→Prop
 | [],σ=>∃σ1,BM σ σ1∧∃res post new,Q res post new∧Ho ti rs σ1 res post new
 | r::rows,σ=>∃σ1,BM σ σ1∧AQ σ1.slots DT= .df f cs (r::rows)∧∃(m:List Id) (targs:List V1) (pre:List AD) (Qd:AV→List AD→List AD→Prop),SM M.P M.I f targs pre Qd∧(fill cs r.cells).map WJ=targs.map (V1.Az (BF m σ1.next))∧m.length=pre.length∧m.Nodup∧
   Re (AJ σ1.heap) (BF m σ1.next) m pre∧∀res post new,Qd res post new→(Bc pre post∧new.length≤31)∧
    Ee M ti rs Q f cs rows ⟨(DT,.df f cs rows)::σ1.slots,Cb σ1.heap (Kk m (BF m σ1.next) post++Cf σ1.next (BF m σ1.next) 0 new),σ1.next+32⟩
theorem Ee.AIa {M:Au}{rs:List ResultVar}{f:Nat}{cs:List FC}:∀{rows:List D}{σ σ':St},BM σ σ'→Ee M ti rs Q f cs rows σ'→Ee M ti rs Q f cs rows σ
 | [],σ,σ',hw,h=>by
  obtain⟨σ1,h1,h⟩:=h
  exact⟨σ1,BM.trans hw h1,h⟩
 | r::rows,σ,σ',hw,h=>by
  obtain⟨σ1,h1,h⟩:=h
  exact⟨σ1,BM.trans hw h1,h⟩
theorem KN {P:Program}{I:Inv}{ti:Types}{fn:Func}{Q:AV→List AD→List AD→Prop}{f:Nat}{cs:List FC}{w:World}{X:Ai}{g:AO}{pre:List AD}{C:Cx}(hti:Ax P ti) (h1:BG ti) (hMP:C.M.P=P) (hMc:C.M.cl=true)
  (hw0:Bn (zone g (Ad pre)) w C.w0) (hX:∀b o,X b o→C.X b o) (hZ:∀b o,C.Z0 b o→zone g (Ad pre) b o∨w.heap.size≤b) (hg:∀j,CR (g (.ext j)) (C.g0 (.ext j))):∀(rows:List D) (σ:St) (a:Act) (w1:World) (tmps:Array Value),
  Ee C.M ti fn.results.toList Q f cs rows σ→AQ σ.slots DT= .df f cs rows→a.tmps=tmps→Bq C σ a w1→
  LeavesInM Fence.wide 0 P fn tmps (fun e w'=>∃v g' res post new,Q res post new∧e= .returned v∧CS w X g pre res post new v w' g') a.defers .returning w1
 | [],σ0,a,w1,tmps,hk,hdt,ht,R0=>by
  obtain⟨g0,R0⟩:=R0
  have hd:=R0.defers
  rw[hMc]at hd
  have hd0:=(hd f cs [] hdt).1
  have hd1:a.defers=[]:=by simpa using hd0
  rw[hd1]
  obtain⟨σ1,hwk0,res,post,new,hQ,gs,hfin⟩:=hk
  obtain⟨σ,hweak,hfin⟩:=Bx hfin
  obtain⟨g1,R1⟩:=hweak _ _ _ (hwk0 _ _ _ ⟨g0,R0⟩)
  have hP:C.P=P:=hMP
  have hti2:Ax C.P ti:=by rw[hP];exact hti
  obtain⟨xs,vs,⟨nm,hnd,hres,hpost,hnewo,hhand⟩,hrun,hlen,hrel⟩:=Dx (C:=C) hti2 h1 R1 _ _ hfin
  obtain⟨f1,f2,f3,f4⟩:=finish (X:=X) R1 hX (B1.1 hnd) hpost hnewo hhand
  have hrr:=KH (C:=C) hrun
  rw[hP,ht]at hrr
  refine⟨_,hrr,_,fun i=>g1 (Cn nm σ.next i),res,post,new,hQ,rfl,⟨f1,?_,?_,fun j=>(hg j).trans (R1.ext j),fun i ob b o hi hb=>?_,f3⟩⟩
  ·refine f4 res _ ?_
   rw[←hres]
   have other:xs.length≠1→Aj w1 (Ar (zone g1 (AJ σ.heap)) C.X) g1 (AJ σ.heap) (.t xs) (.tuple vs.toArray):=fun _=>
    ⟨vs.toArray,rfl,by simpa using hlen,fun j x v hx hv=>hrel j x v hx (by simpa using hv)⟩
   match xs,vs,hlen,hrel,other with
   | [x],[v],_,hrel,_=>exact hrel 0 x v rfl rfl
   | [],[],_,_,other=>exact other (by simp)
   | x::y::xs,v::u::vs,hl,_,other=>
    have:¬(v::u::vs).toArray.size=1:=by simp
    simp only[dif_neg this]
    exact other (by simp)
  ·refine hw0.then (R1.frame) (fun b o hz=>hZ b o hz)
  ·obtain⟨j,ob',hj,hz⟩:=f2 i ob b o hi hb
   rcases R1.within j ob' b o hj hz with hz | hz
   ·exact hZ b o hz
   ·exact .inr (Nat.le_trans hw0.size hz)
 | r::rows,σ0,a,w1,tmps,hk,hdt,ht,R0=>by
  obtain⟨σ,hwk,hdt,m,targs,pre',Qd,htrip,hargs,hlen,hnd,hpre,hK⟩:=hk
  obtain⟨g1,R1⟩:=hwk _ _ _ R0
  have hcl:C.M.cl=true:=hMc
  have hd:=R1.defers
  rw[hcl]at hd
  obtain⟨hl,hds⟩:=hd f cs (r::rows) hdt
  cases hda:a.defers with
  | nil=>simp_all
  | cons d ds=>
   rw[hda]at hl hds
   obtain⟨ps,rfl,hclo⟩:=hds 0 r d rfl rfl
   obtain⟨hpsz,hcap⟩:=RB (h:=AJ σ.heap) hclo
   have hP:C.P=P:=hMP
   obtain⟨⟨fnd,body,hfn,hb,hname⟩,htrip⟩:=htrip
   rw[show C.M.P=P from hP]at hfn htrip
   have hn':¬fnd.name= "runtime.NumGoroutine" :=by simpa using hname
   refine⟨by simp,.inr ⟨(fun h=>by cases h),.func f,ps,f,ps,rfl,?_,fun _ _=>trivial,?_⟩⟩
   ·simp[invoke,callFunc,hfn,hb,hn']
   have core:=Dj (C:=C) (Qp:=Qd) (Run:=fun p=>CallsDIn Fence.wide 0 P f ps .returning w1 fun e u' w'=>u'= .returning∧p e w') (vals:=ps) (dst:=none) (Q:=fun _ _ _=>False) (a:=a) R1 (fun hpq hp=>CallsDIn.mono hp fun e u' w' q=>⟨q.1,hpq _ _ q.2⟩)
    (fun X' g' _ k1 k2 k3 k4 k6=>htrip w1 X' g' ps k1 k2 k3 k4 (by have:=congrArg List.length hargs;simp at this;omega) k6) hlen hnd hpre (fun r p q h=>(hK r p q h).1) (fun k _=>by simp_all) (fun d hd=>by cases hd) (targs:=targs) (by grind)
   refine CallsDIn.mono core ?_
   rintro e u' w2 ⟨rfl,he⟩
   cases e with
   | panicked ch=>exact he.elim
   | outgrown=>exact absurd he (by simp[LetsOut])
   | returned v=>
    obtain⟨res,post,new,hq,g2,_,R2⟩:=he
    have hlv:=(hK res post new hq).2
    have R3:Bq C ⟨(DT,.df f cs rows)::σ.slots,Cb σ.heap (Kk m (BF m σ.next) post++Cf σ.next (BF m σ.next) 0 new),σ.next+32⟩ {tmps:=a.tmps,defers:=ds} w2:=by
     refine⟨g2,?_⟩
     have hdf:=R2.defers
     rw[hcl]at hdf
     obtain⟨q1,q2⟩:=hdf f cs (r::rows) (by simpa [CL] using hdt)
     have hda':(a.put none v).defers=⟨.fn (.func f) ps,#[]⟩::ds:=hda
     rw[hda']at q1 q2
     rw[CZ]
     refine {R2.Ae (F':=fun n=>σ.next+32≤n) (fun n hn=>⟨by omega,by omega⟩)with size:=R2.size,defers:=?_,slots:=fun t=>?_}
     ·rw[hcl]
      intro f' cs' rows' e
      rw[Ba]at e
      simp only[CL]at e
      cases e
      exact⟨by simpa using q1,fun k y d hy hd=>q2 (k+1) y d (by simpa using hy) (by simpa using hd)⟩
     ·rw[Ba]
      simp only[CL]
      split
      ·trivial
      ·exact R2.slots t
    have:=KN (P:=P) (I:=I) (fn:=fn) hti h1 hMP hMc hw0 hX hZ hg rows _ {tmps:=a.tmps,defers:=ds} w2 tmps hlv (by rfl) ht R3
    exact this
theorem EP.uN {I:Inv}(dr:Au→Nat→Pf) (hti:Ax P ti) (h1:BG ti) (hdr:∀C:Cx,C.P=P→Fo C (dr C.M C.nt)) (hf:P.funcs[f]?=some fn) (hb:fn.body=some c)
  (hname:(fn.name== "runtime.NumGoroutine")=false) (hargs:args.length≤fn.ntmps) (hnt:fn.ntmps≤DT) (hnr:Dv c=true) (fd:Nat) (cs:List FC)
  (hx:∀M:Au,M.P=P→M.I=I→M.cl=true→exec M ti fn.ntmps (dr M fn.ntmps) c ⟨(DT,.df fd cs [])::slotsOf args 0,Bi pre 0,0⟩ fun e σ=>match e with
   | .exit _=>False
   | .normal=>∃rows,Ee M ti fn.results.toList Q fd cs rows σ∧AQ σ.slots DT= .df fd cs rows
   | .ret=>∃rows,Ee M ti fn.results.toList Q fd cs rows σ∧AQ σ.slots DT= .df fd cs rows):EP P I f args pre Q:=by
 refine⟨⟨fn,c,hf,hb,hname⟩,fun w X g vals hX hI RH hg hsz hargs'=>?_⟩
 let C:Cx:={M:=Au.of P I true,nt:=fn.ntmps,w0:=w,Z0:=zone g (Ad pre),X:=X,g0:=g,hinv:=hI,ro:=none,D:=[],hro:=fun l hl=>(by cases hl),hD:=fun r hr=>(by cases hr),hDn:=List.nodup_nil,hcl:=fun _=>⟨hnt,rfl⟩}
 have R0:Bq C ⟨(DT,.df fd cs [])::slotsOf args 0,Bi pre 0,0⟩ {tmps:=vals++Array.replicate (fn.ntmps - vals.size) undef,defers:=[]} w:=by
  refine Hq (P:=P) (by simp[C];omega) ?_ (fun t=>?_) RH rfl rfl (fun _ _ h=>h) hX hg
  ·show DQ _ _ _ true _ _ _
   rw[Ba]
   simp only[if_pos]
   intro f' cs' rows' e
   cases e
   exact⟨rfl,fun k r d hr=>by simp at hr⟩
  ·rw[Ba]
   simp only[]
   split
   ·trivial
   rcases Gd args 0 t with h | ⟨x,_,h2,h3⟩
   ·rw[h];trivial
   ·rw[h3]
    simp only[Nat.sub_zero]at h2
    have hlt:t<vals.size:=by grind
    have:(vals++Array.replicate (fn.ntmps - vals.size) undef).getD t undef=vals[t]:=by
     simp[Array.getElem?_append,hlt]
    show Ag w _ g _ x ((vals++Array.replicate (fn.ntmps - vals.size) undef).getD t undef)
    rw[this]
    exact hargs' t x _ h2 (by simp[hlt])
 refine callsIn_wide.1 (callsIn_of_wp_marks (n:=0) hf hb trivial (wpIn_mono (Bb (M:=Au.of P I true) (ro:=none) hti h1 (fun C hC hn=>by
  have:=hdr C (by show C.M.P=P;rw[hC];rfl)
  grind) c _ _ C _ w rfl rfl rfl (fun _=>hnr) (hx (Au.of P I true) rfl rfl rfl) R0) ?_))
 have fin:∀(C':Cx) (σ:St) (a':Act) (w':World),DW C C'→(∃rows,Ee (Au.of P I true) ti fn.results.toList Q fd cs rows σ∧AQ σ.slots DT= .df fd cs rows)→Bq C' σ a' w'→
   LeavesInM Fence.wide 0 P fn a'.tmps (fun e w'=>∃v g' res post new,Q res post new∧e= .returned v∧CS w X g pre res post new v w' g') a'.defers .returning w':=by
  rintro C' σ a' w' hle ⟨rows,hlv,hdt⟩ R
  exact KN (P:=P) (I:=I) hti h1 (by rw[hle.M];rfl) (by rw[hle.M];rfl) hle.frame (fun b o hx=>hle.X b o hx) hle.Z0 hle.ext rows σ a' w' _ (by rw[hle.M];exact hlv) hdt rfl R
 intro e a' w' hq
 cases e with
 | normal=>obtain⟨C',hle,σ,hf',hr⟩:=hq;exact fin C' σ a' w' hle hf' hr
 | ret=>obtain⟨C',hle,σ,hf',hr⟩:=hq;exact fin C' σ a' w' hle hf' hr
 | exit id=>obtain⟨C',hle,σ,hf',hr⟩:=hq;exact hf'.elim
 | goto l=>exact hq.elim
 | panic ch=>obtain⟨C',hle,v0,s,h,nx,hpn,_⟩:=hq;rw[hle.M]at hpn;exact hpn.elim
 | outgrown=>exact hq.elim
end
end Go.AM
namespace Go.Proofs.YtjfmnfncmfepnaaGreatDoor
open Go Go.AM
theorem oH:Tryz.prog.follows .mixedOrders=true:=by kernel_rfl
theorem SN {P:Program}{name:String}{g:Nat}(hg:P.globalNamed name=some g) {w w':World}(h:w'.heap[g]?=w.heap[g]?):w'.var? P name=w.var? P name:=by
 unfold World.var?
 simp_all
theorem Yu:∃g,Tryz.prog.globalNamed "strings.asciiSpace" =some g:=⟨4,by kernel_rfl⟩
theorem qR:∃g,Tryz.prog.globalNamed "internal/strconv.uint64pow10" =some g:=⟨0,by kernel_rfl⟩
def inv:Inv:=⟨fun b=>Tryz.prog.globalNamed "strings.asciiSpace" =some b∨Tryz.prog.globalNamed "internal/strconv.uint64pow10" =some b,fun w=>Lib.TabIs Tryz.prog w "strings.asciiSpace" .u8 Lib.asciiSpaceTab∧Lib.TabIs Tryz.prog w "internal/strconv.uint64pow10" .u64 Lib.pow10Tab,fun h hr=>by
 obtain⟨g,hg⟩:=Yu
 obtain⟨g',hg'⟩:=qR
 unfold Lib.TabIs at hr ⊢
 rw[SN hg (h g (.inl hg)),SN hg' (h g' (.inr hg'))]
 exact hr⟩
end Go.Proofs.YtjfmnfncmfepnaaGreatDoor
namespace Go.Proofs
open Go.Shelf
def Tryz.KY:Go.Shelf.Ren:=⟨fun | 156=>42 | 165=>94 | 166=>95 | 169=>96 | 240=>129 | 241=>130 | 276=>188 | 277=>189 | n=>n,fun | 31=>42 | 9=>9 | 3=>3 | 4=>4 | 0=>0 | 20=>20 | 72=>173 | 76=>176 | 70=>170 | 37=>171 | 75=>175 | 127=>209 | 164=>239 | 5=>5 | 80=>178 | n=>n,fun | n=>n⟩
theorem Tryz.WH:Go.Proofs.Lays.n156 Tryz.prog Tryz.KY:={
 mixed:=by kernel_rfl
 f156:=Tryz.func42.trans (congrArg some (by kernel_rfl))
 f165:=Tryz.func94.trans (congrArg some (by kernel_rfl))
 f166:=Tryz.func95.trans (congrArg some (by kernel_rfl))
 f169:=Tryz.func96.trans (congrArg some (by kernel_rfl))
 f240:=Tryz.func129.trans (congrArg some (by kernel_rfl))
 f241:=Tryz.func130.trans (congrArg some (by kernel_rfl))
 f276:=Tryz.func188.trans (congrArg some (by kernel_rfl))
 f277:=Tryz.func189.trans (congrArg some (by kernel_rfl))
 t0:=Tryz.underlying0
 a0:=Tryz.isAgg0
 z0:=Tryz.sizeOf0
 v0:=Tryz.zeroValue0
 t3:=Tryz.underlying3
 a3:=Tryz.isAgg3
 z3:=Tryz.sizeOf3
 v3:=Tryz.zeroValue3
 t4:=Tryz.underlying4
 a4:=Tryz.isAgg4
 z4:=Tryz.sizeOf4
 v4:=Tryz.zeroValue4
 t9:=Tryz.underlying9
 a9:=Tryz.isAgg9
 z9:=Tryz.sizeOf9
 v9:=Tryz.zeroValue9
 t20:=Tryz.underlying20
 a20:=Tryz.isAgg20
 z20:=Tryz.sizeOf20
 v20:=Tryz.zeroValue20
 t31:=Tryz.underlying42
 a31:=Tryz.isAgg42
 z31:=Tryz.sizeOf42
 v31:=Tryz.zeroValue42
 t37:=Tryz.underlying171
 a37:=Tryz.isAgg171
 z37:=Tryz.sizeOf171
 v37:=Tryz.zeroValue171
 t70:=Tryz.underlying170
 a70:=Tryz.isAgg170
 z70:=Tryz.sizeOf170
 v70:=Tryz.zeroValue170
 t72:=Tryz.underlying173
 a72:=Tryz.isAgg173
 z72:=Tryz.sizeOf173
 v72:=Tryz.zeroValue173
 t75:=Tryz.underlying175
 a75:=Tryz.isAgg175
 z75:=Tryz.sizeOf175
 v75:=Tryz.zeroValue175
 t76:=Tryz.underlying176
 a76:=Tryz.isAgg176
 z76:=Tryz.sizeOf176
 v76:=Tryz.zeroValue176
 t127:=Tryz.underlying209
 a127:=Tryz.isAgg209
 z127:=Tryz.sizeOf209
 v127:=Tryz.zeroValue209
 t164:=Tryz.underlying239
 a164:=Tryz.isAgg239
 z164:=Tryz.sizeOf239
 v164:=Tryz.zeroValue239}
theorem Tryz.E0:Builder.Extra Tryz.prog Tryz.KY:={
 sizeBuilder:=by kernel_rfl
 liesBuilder:=by kernel_rfl
 t5:=Tryz.underlying5
 a5:=Tryz.isAgg5
 z5:=Tryz.sizeOf5
 v5:=Tryz.zeroValue5
 infoByte:=by kernel_rfl
 cellsByte:=by kernel_rfl
 sizeByte:=by kernel_rfl
 neB5:=by decide}
open Go.RowKit in
theorem Tryz.strings_Join_none (a:Option Addr) (c:Nat) (sep:ByteArray) (w:World):
  Calls Tryz.prog 42 #[.slice a 0 c,.string sep] w fun e w'=>e= .returned (.string ⟨#[]⟩)∧w'=w:=Any.strings_Join_none Tryz.WH Tryz.E0 a c sep w
open Go.RowKit in
theorem Tryz.strings_Join (bk o c:Nat) (xs:List ByteArray) (sep:ByteArray) (w:World) (hcells:∀(j:Nat) x,xs[j]?=some x→w.cell? ⟨bk,o+j,none⟩=some (.string x)) (hbk:bk<w.heap.size) (hN:xs.length≤140737488355328) (hcap:xs.length≤c) (hlen:(Lib.join (xs.map (·.data.toList)) sep.data.toList).length≤140737488355328):
  Calls Tryz.prog 42 #[.slice (some ⟨bk,o,none⟩) xs.length c,.string sep] w fun e w'=>e= .returned (.string ⟨(Lib.join (xs.map (·.data.toList)) sep.data.toList).toArray⟩)∧Below w.heap.size w w':=Any.strings_Join Tryz.WH Tryz.E0 bk o c xs sep w hcells hbk hN hcap hlen
def Tryz.Q5:Go.Shelf.Ren:=⟨fun | 171=>41 | 243=>93 | 246=>97 | 283=>131 | 284=>132 | 285=>133 | 286=>134 | 129=>191 | 317=>190 | 318=>192 | 319=>193 | 320=>194 | 337=>239 | 338=>240 | n=>n,fun | 3=>3 | 9=>9 | 2=>2 | 4=>4 | 171=>210 | 0=>0 | 53=>211 | 37=>171 | 5=>5 | 173=>214 | 212=>244 | 51=>245 | 20=>20 | 213=>246 | 46=>247 | 232=>285 | 233=>286 | n=>n,fun | 17=>0 | 18=>2 | 19=>3 | n=>n⟩
theorem Tryz.iJ:Go.Proofs.LaysM.n171 Tryz.prog Tryz.Q5:={
 mixed:=by kernel_rfl
 f129:=Tryz.func191.trans (congrArg some (by kernel_rfl))
 f171:=Tryz.func41.trans (congrArg some (by kernel_rfl))
 f243:=Tryz.func93.trans (congrArg some (by kernel_rfl))
 f246:=Tryz.func97.trans (congrArg some (by kernel_rfl))
 f283:=Tryz.func131.trans (congrArg some (by kernel_rfl))
 f284:=Tryz.func132.trans (congrArg some (by kernel_rfl))
 f285:=Tryz.func133.trans (congrArg some (by kernel_rfl))
 f286:=Tryz.func134.trans (congrArg some (by kernel_rfl))
 f317:=Tryz.func190.trans (congrArg some (by kernel_rfl))
 f318:=Tryz.func192.trans (congrArg some (by kernel_rfl))
 f319:=Tryz.func193.trans (congrArg some (by kernel_rfl))
 f320:=Tryz.func194.trans (congrArg some (by kernel_rfl))
 f337:=Tryz.func239.trans (congrArg some (by kernel_rfl))
 f338:=Tryz.func240.trans (congrArg some (by kernel_rfl))
 t0:=Tryz.underlying0
 a0:=Tryz.isAgg0
 z0:=Tryz.sizeOf0
 v0:=Tryz.zeroValue0
 t2:=Tryz.underlying2
 a2:=Tryz.isAgg2
 z2:=Tryz.sizeOf2
 v2:=Tryz.zeroValue2
 t3:=Tryz.underlying3
 a3:=Tryz.isAgg3
 z3:=Tryz.sizeOf3
 v3:=Tryz.zeroValue3
 t4:=Tryz.underlying4
 a4:=Tryz.isAgg4
 z4:=Tryz.sizeOf4
 v4:=Tryz.zeroValue4
 t5:=Tryz.underlying5
 a5:=Tryz.isAgg5
 z5:=Tryz.sizeOf5
 v5:=Tryz.zeroValue5
 t9:=Tryz.underlying9
 a9:=Tryz.isAgg9
 z9:=Tryz.sizeOf9
 v9:=Tryz.zeroValue9
 t20:=Tryz.underlying20
 a20:=Tryz.isAgg20
 z20:=Tryz.sizeOf20
 v20:=Tryz.zeroValue20
 t37:=Tryz.underlying171
 a37:=Tryz.isAgg171
 z37:=Tryz.sizeOf171
 v37:=Tryz.zeroValue171
 t46:=Tryz.underlying247
 a46:=Tryz.isAgg247
 z46:=Tryz.sizeOf247
 v46:=Tryz.zeroValue247
 t51:=Tryz.underlying245
 a51:=Tryz.isAgg245
 z51:=Tryz.sizeOf245
 v51:=Tryz.zeroValue245
 t53:=Tryz.underlying211
 a53:=Tryz.isAgg211
 z53:=Tryz.sizeOf211
 v53:=Tryz.zeroValue211
 t171:=Tryz.underlying210
 a171:=Tryz.isAgg210
 z171:=Tryz.sizeOf210
 v171:=Tryz.zeroValue210
 t173:=Tryz.underlying214
 a173:=Tryz.isAgg214
 z173:=Tryz.sizeOf214
 v173:=Tryz.zeroValue214
 t212:=Tryz.underlying244
 a212:=Tryz.isAgg244
 z212:=Tryz.sizeOf244
 v212:=Tryz.zeroValue244
 t213:=Tryz.underlying246
 a213:=Tryz.isAgg246
 z213:=Tryz.sizeOf246
 t232:=Tryz.underlying285
 a232:=Tryz.isAgg285
 z232:=Tryz.sizeOf285
 v232:=Tryz.zeroValue285
 t233:=Tryz.underlying286
 a233:=Tryz.isAgg286
 z233:=Tryz.sizeOf286
 v233:=Tryz.zeroValue286
 g17:=by kernel_rfl
 g18:=by kernel_rfl
 g19:=by kernel_rfl
 i0:=by kernel_rfl
 i2:=by kernel_rfl
 i3:=by kernel_rfl
 i4:=by kernel_rfl
 i5:=by kernel_rfl
 i9:=by kernel_rfl
 i20:=by kernel_rfl
 i37:=by kernel_rfl
 i46:=by kernel_rfl
 i51:=by kernel_rfl
 i53:=by kernel_rfl
 i171:=by kernel_rfl
 i173:=by kernel_rfl
 i212:=by kernel_rfl
 i232:=by kernel_rfl
 i233:=by kernel_rfl
 m17:=by kernel_rfl
 m18:=by kernel_rfl
 m19:=by kernel_rfl}
open Go.RowKit Go.Sort Go.Lib in
theorem Tryz.strconv_Itoa (n:Int) (h0: -9223372036854775808≤n) (h1:n≤9223372036854775807) (w:World) (htab:Lib.TabIs Tryz.prog w "internal/strconv.uint64pow10" .u64 Lib.pow10Tab):
  Calls Tryz.prog 41 #[.int .i64 n] w fun e w'=>e= .returned (.string ⟨(Lib.itoa n).toArray⟩)∧∃k os,w'=grow (w.drewN k) os:=Any.strconv_Itoa Tryz.iJ n h0 h1 w htab
def Tryz.Q6:Go.Shelf.Ren:=⟨fun | 173=>43 | 246=>97 | 283=>131 | 284=>132 | 285=>133 | 286=>134 | 129=>191 | 317=>190 | 318=>192 | 319=>193 | 320=>194 | 337=>239 | 338=>240 | n=>n,fun | 2=>2 | 3=>3 | 9=>9 | 4=>4 | 171=>210 | 0=>0 | 53=>211 | 37=>171 | 5=>5 | 173=>214 | 212=>244 | 51=>245 | 20=>20 | 213=>246 | 46=>247 | 232=>285 | 233=>286 | n=>n,fun | 17=>0 | 18=>2 | 19=>3 | n=>n⟩
theorem Tryz.iK:Go.Proofs.LaysM.n173 Tryz.prog Tryz.Q6:={
 mixed:=by kernel_rfl
 f129:=Tryz.func191.trans (congrArg some (by kernel_rfl))
 f173:=Tryz.func43.trans (congrArg some (by kernel_rfl))
 f246:=Tryz.func97.trans (congrArg some (by kernel_rfl))
 f283:=Tryz.func131.trans (congrArg some (by kernel_rfl))
 f284:=Tryz.func132.trans (congrArg some (by kernel_rfl))
 f285:=Tryz.func133.trans (congrArg some (by kernel_rfl))
 f286:=Tryz.func134.trans (congrArg some (by kernel_rfl))
 f317:=Tryz.func190.trans (congrArg some (by kernel_rfl))
 f318:=Tryz.func192.trans (congrArg some (by kernel_rfl))
 f319:=Tryz.func193.trans (congrArg some (by kernel_rfl))
 f320:=Tryz.func194.trans (congrArg some (by kernel_rfl))
 f337:=Tryz.func239.trans (congrArg some (by kernel_rfl))
 f338:=Tryz.func240.trans (congrArg some (by kernel_rfl))
 t0:=Tryz.underlying0
 a0:=Tryz.isAgg0
 z0:=Tryz.sizeOf0
 v0:=Tryz.zeroValue0
 t2:=Tryz.underlying2
 a2:=Tryz.isAgg2
 z2:=Tryz.sizeOf2
 v2:=Tryz.zeroValue2
 t3:=Tryz.underlying3
 a3:=Tryz.isAgg3
 z3:=Tryz.sizeOf3
 v3:=Tryz.zeroValue3
 t4:=Tryz.underlying4
 a4:=Tryz.isAgg4
 z4:=Tryz.sizeOf4
 v4:=Tryz.zeroValue4
 t5:=Tryz.underlying5
 a5:=Tryz.isAgg5
 z5:=Tryz.sizeOf5
 v5:=Tryz.zeroValue5
 t9:=Tryz.underlying9
 a9:=Tryz.isAgg9
 z9:=Tryz.sizeOf9
 v9:=Tryz.zeroValue9
 t20:=Tryz.underlying20
 a20:=Tryz.isAgg20
 z20:=Tryz.sizeOf20
 v20:=Tryz.zeroValue20
 t37:=Tryz.underlying171
 a37:=Tryz.isAgg171
 z37:=Tryz.sizeOf171
 v37:=Tryz.zeroValue171
 t46:=Tryz.underlying247
 a46:=Tryz.isAgg247
 z46:=Tryz.sizeOf247
 v46:=Tryz.zeroValue247
 t51:=Tryz.underlying245
 a51:=Tryz.isAgg245
 z51:=Tryz.sizeOf245
 v51:=Tryz.zeroValue245
 t53:=Tryz.underlying211
 a53:=Tryz.isAgg211
 z53:=Tryz.sizeOf211
 v53:=Tryz.zeroValue211
 t171:=Tryz.underlying210
 a171:=Tryz.isAgg210
 z171:=Tryz.sizeOf210
 v171:=Tryz.zeroValue210
 t173:=Tryz.underlying214
 a173:=Tryz.isAgg214
 z173:=Tryz.sizeOf214
 v173:=Tryz.zeroValue214
 t212:=Tryz.underlying244
 a212:=Tryz.isAgg244
 z212:=Tryz.sizeOf244
 v212:=Tryz.zeroValue244
 t213:=Tryz.underlying246
 a213:=Tryz.isAgg246
 z213:=Tryz.sizeOf246
 t232:=Tryz.underlying285
 a232:=Tryz.isAgg285
 z232:=Tryz.sizeOf285
 v232:=Tryz.zeroValue285
 t233:=Tryz.underlying286
 a233:=Tryz.isAgg286
 z233:=Tryz.sizeOf286
 v233:=Tryz.zeroValue286
 g17:=by kernel_rfl
 g18:=by kernel_rfl
 g19:=by kernel_rfl
 i0:=by kernel_rfl
 i2:=by kernel_rfl
 i3:=by kernel_rfl
 i4:=by kernel_rfl
 i5:=by kernel_rfl
 i9:=by kernel_rfl
 i20:=by kernel_rfl
 i37:=by kernel_rfl
 i46:=by kernel_rfl
 i51:=by kernel_rfl
 i53:=by kernel_rfl
 i171:=by kernel_rfl
 i173:=by kernel_rfl
 i212:=by kernel_rfl
 i232:=by kernel_rfl
 i233:=by kernel_rfl
 m17:=by kernel_rfl
 m18:=by kernel_rfl
 m19:=by kernel_rfl}
open Go.RowKit Go.Sort Go.Lib in
theorem Tryz.strconv_FormatInt_10 (n:Int) (h0: -9223372036854775808≤n) (h1:n≤9223372036854775807) (w:World) (htab:Lib.TabIs Tryz.prog w "internal/strconv.uint64pow10" .u64 Lib.pow10Tab):
  Calls Tryz.prog 43 #[.int .i64 n,.int .i64 10] w fun e w'=>e= .returned (.string ⟨(Lib.itoa n).toArray⟩)∧∃k os,w'=grow (w.drewN k) os:=Any.strconv_FormatInt_10 Tryz.iK n h0 h1 w htab
def Tryz.Tn:Go.Shelf.Ren:=⟨fun | 157=>254 | 229=>255 | 199=>256 | 261=>257 | 311=>258 | 312=>259 | n=>n,fun | 9=>9 | 31=>42 | 3=>3 | 5=>5 | 4=>4 | 119=>289 | 0=>0 | 40=>291 | 152=>292 | 21=>21 | 154=>294 | 51=>245 | 141=>296 | 196=>300 | 193=>297 | 198=>303 | 49=>301 | 194=>298 | 201=>306 | 226=>308 | 46=>247 | 227=>309 | n=>n,fun | 0=>4 | 6=>5 | n=>n⟩
theorem Tryz.nD:Go.Proofs.Lays.n157 Tryz.prog Tryz.Tn:={
 mixed:=by kernel_rfl
 f157:=Tryz.func254.trans (congrArg some (by kernel_rfl))
 f199:=Tryz.func256.trans (congrArg some (by kernel_rfl))
 f229:=Tryz.func255.trans (congrArg some (by kernel_rfl))
 f261:=Tryz.func257.trans (congrArg some (by kernel_rfl))
 f311:=Tryz.func258.trans (congrArg some (by kernel_rfl))
 f312:=Tryz.func259.trans (congrArg some (by kernel_rfl))
 t0:=Tryz.underlying0
 a0:=Tryz.isAgg0
 z0:=Tryz.sizeOf0
 v0:=Tryz.zeroValue0
 t3:=Tryz.underlying3
 a3:=Tryz.isAgg3
 z3:=Tryz.sizeOf3
 v3:=Tryz.zeroValue3
 t4:=Tryz.underlying4
 a4:=Tryz.isAgg4
 z4:=Tryz.sizeOf4
 v4:=Tryz.zeroValue4
 t5:=Tryz.underlying5
 a5:=Tryz.isAgg5
 z5:=Tryz.sizeOf5
 v5:=Tryz.zeroValue5
 t9:=Tryz.underlying9
 a9:=Tryz.isAgg9
 z9:=Tryz.sizeOf9
 v9:=Tryz.zeroValue9
 t21:=Tryz.underlying21
 a21:=Tryz.isAgg21
 z21:=Tryz.sizeOf21
 v21:=Tryz.zeroValue21
 t31:=Tryz.underlying42
 a31:=Tryz.isAgg42
 z31:=Tryz.sizeOf42
 v31:=Tryz.zeroValue42
 t40:=Tryz.underlying291
 a40:=Tryz.isAgg291
 z40:=Tryz.sizeOf291
 v40:=Tryz.zeroValue291
 t46:=Tryz.underlying247
 a46:=Tryz.isAgg247
 z46:=Tryz.sizeOf247
 v46:=Tryz.zeroValue247
 t49:=Tryz.underlying301
 a49:=Tryz.isAgg301
 z49:=Tryz.sizeOf301
 v49:=Tryz.zeroValue301
 t51:=Tryz.underlying245
 a51:=Tryz.isAgg245
 z51:=Tryz.sizeOf245
 v51:=Tryz.zeroValue245
 t119:=Tryz.underlying289
 a119:=Tryz.isAgg289
 z119:=Tryz.sizeOf289
 t141:=Tryz.underlying296
 a141:=Tryz.isAgg296
 z141:=Tryz.sizeOf296
 v141:=Tryz.zeroValue296
 t152:=Tryz.underlying292
 a152:=Tryz.isAgg292
 z152:=Tryz.sizeOf292
 v152:=Tryz.zeroValue292
 t154:=Tryz.underlying294
 a154:=Tryz.isAgg294
 z154:=Tryz.sizeOf294
 v154:=Tryz.zeroValue294
 t193:=Tryz.underlying297
 a193:=Tryz.isAgg297
 z193:=Tryz.sizeOf297
 v193:=Tryz.zeroValue297
 t194:=Tryz.underlying298
 a194:=Tryz.isAgg298
 z194:=Tryz.sizeOf298
 v194:=Tryz.zeroValue298
 t196:=Tryz.underlying300
 a196:=Tryz.isAgg300
 z196:=Tryz.sizeOf300
 v196:=Tryz.zeroValue300
 t198:=Tryz.underlying303
 a198:=Tryz.isAgg303
 z198:=Tryz.sizeOf303
 v198:=Tryz.zeroValue303
 t201:=Tryz.underlying306
 a201:=Tryz.isAgg306
 z201:=Tryz.sizeOf306
 v201:=Tryz.zeroValue306
 t226:=Tryz.underlying308
 a226:=Tryz.isAgg308
 z226:=Tryz.sizeOf308
 v226:=Tryz.zeroValue308
 t227:=Tryz.underlying309
 a227:=Tryz.isAgg309
 z227:=Tryz.sizeOf309
 v227:=Tryz.zeroValue309
 g0:=by kernel_rfl
 g6:=by kernel_rfl}
open Go.RowKit Go.Lib in
theorem Tryz.strings_Fields (s:ByteArray) (w:World) (hs:s.size<4294967281) (hascii:∀(j:Nat) b,s.data.toList[j]?=some b→b.toNat<128) (htab:Lib.TabIs Tryz.prog w "strings.asciiSpace" .u8 Lib.asciiSpaceTab):
  Calls Tryz.prog 254 #[.string s] w fun e w'=>
   e= .returned (.slice (some ⟨w.heap.size,0,none⟩) (Lib.fields s.data.toList).length (Lib.fields s.data.toList).length)∧w'=w.alloc (.cells ((Lib.fields s.data.toList).map fun l=>Value.string ⟨l.toArray⟩).toArray 9):=Any.strings_Fields Tryz.nD (by kernel_rfl) (by kernel_rfl) s w hs hascii htab
end Go.Proofs
set_option linter.unusedVariables false
namespace Go.Proofs.YtjfmnfncmfepnaaGreatDoor
open Go Go.AM
theorem two {vals:Array Value}(h:vals.size=2):∃v u,vals=#[v,u]:=
 ⟨vals[0],vals[1],by
  grind⟩
theorem qS {w:World}{Z:Ai}{s:ByteArray}{v:Value}(h:AZ w Z (.str s) v):v= .string s:=by cases h;rfl
def oI (z:Int):ByteArray:=⟨(Lib.itoa z).toArray⟩
def wV (xs:List ByteArray) (sep:ByteArray):ByteArray:=⟨(Lib.join (xs.map (·.data.toList)) sep.data.toList).toArray⟩
def oJ (n:Nat) (z:Int):Option ByteArray:=if -9223372036854775808≤z∧z≤9223372036854775807 then some (oI z)else none
def zX (n:Nat) (z b:Int):Option ByteArray:=if b=10∧ -9223372036854775808≤z∧z≤9223372036854775807 then some (oI z)else none
def zY (n:Nat) (l:List D) (sep:ByteArray):Option ByteArray:=
 match Vj l with
 | some xs=>if xs.length≤140737488355328∧(Lib.join (xs.map (·.data.toList)) sep.data.toList).length≤140737488355328 then some (wV xs sep)else none
 | none=>none
theorem T41 (n:Nat):∀⦃z:Int⦄ ⦃r1:ByteArray⦄,oJ n z=some r1→Ct Tryz.prog inv 41 [.d (.int .i64 z)] [] (.v (.d (.str r1))) [] []:=by
 intro z r1 h
 unfold oJ at h
 split at h
 ·rename_i hz
  cases h
  refine Ct.Q4 (xs:=[.int .i64 z]) ⟨_,_,Tryz.func41,rfl,by kernel_rfl⟩ fun w Z vals hr hsz hv=>?_
  obtain⟨v,rfl⟩:∃v,vals=#[v]:=Array.size_eq_one_iff.1 hsz
  cases hv 0 _ _ rfl rfl
  refine (Tryz.strconv_Itoa z hz.1 hz.2 w hr.2).mono ?_
  rintro e w' ⟨rfl,k,os,rfl⟩
  exact⟨_,rfl,Gi (Lib.below_grow _ w (Nat.le_refl _) k os),fun _ _ _=>.str _⟩
 ·cases h
theorem T43 (n:Nat):∀⦃z b:Int⦄ ⦃r1:ByteArray⦄,zX n z b=some r1→Ct Tryz.prog inv 43 [.d (.int .i64 z),.d (.int .i64 b)] [] (.v (.d (.str r1))) [] []:=by
 intro z b r1 h
 unfold zX at h
 split at h
 ·rename_i hz
  cases h
  obtain⟨rfl,hz⟩:=hz
  refine Ct.Q4 (xs:=[.int .i64 z,.int .i64 10]) ⟨_,_,Tryz.func43,rfl,by kernel_rfl⟩ fun w Z vals hr hsz hv=>?_
  obtain⟨v,u,rfl⟩:∃v u,vals=#[v,u]:=two hsz
  cases hv 0 _ _ rfl rfl
  cases hv 1 _ _ rfl rfl
  refine (Tryz.strconv_FormatInt_10 z hz.1 hz.2 w hr.2).mono ?_
  rintro e w' ⟨rfl,k,os,rfl⟩
  exact⟨_,rfl,Gi (Lib.below_grow _ w (Nat.le_refl _) k os),fun _ _ _=>.str _⟩
 ·cases h
theorem T42 (n:Nat):∀⦃l:List D⦄ ⦃sep r1:ByteArray⦄,zY n l sep=some r1→Ct Tryz.prog inv 42 [.d (.list false 1 l),.d (.str sep)] [] (.v (.d (.str r1))) [] []:=by
 intro l sep r1 h
 unfold zY at h
 split at h
 rotate_left
 ·cases h
 rename_i xs hxs
 obtain rfl:=Od hxs
 split at h
 rotate_left
 ·cases h
 rename_i hb
 cases h
 refine Ct.Q4 (xs:=[.list false 1 (xs.map D.str),.str sep]) ⟨_,_,Tryz.func42,rfl,by kernel_rfl⟩ fun w Z vals hr hsz hv=>?_
 obtain⟨v,u,rfl⟩:∃v u,vals=#[v,u]:=two hsz
 cases hv 1 _ _ rfl rfl
 cases hv 0 _ _ rfl rfl with
 | list _ _ _ A cap b o U hcap hmax hfit ha hc hrr=>
  by_cases he:xs=[]
  ·subst he
   refine (Tryz.strings_Join_none A cap sep w).mono ?_
   rintro e w' ⟨rfl,rfl⟩
   exact⟨_,rfl,⟨rfl,rfl,rfl,Nat.le_refl _,fun _ _ _=>rfl⟩,fun _ _ _=>.str _⟩
  ·have hA:=ha (by simpa using he)
   subst hA
   have cells:∀(j:Nat) x,xs[j]?=some x→w.cell? ⟨b,o+j,none⟩=some (.string x):=by
    intro j x hx
    have h1:(xs.map D.str)[j]?=some (.str x):=by simp[hx]
    have h2:=(hc j _ 0 _ h1 rfl).1
    have h3:=hrr j _ 0 _ h1 rfl
    simp only[Nat.mul_one,Nat.add_zero]at h2
    rw[h2,qS h3]
   have hbk:b<w.heap.size:=by
    obtain⟨x,xs',rfl⟩:=List.exists_cons_of_ne_nil he
    have:=World.block_lt_of_cell? w ⟨b,o+0,none⟩ (cells 0 x rfl)
    exact this
   have:=Tryz.strings_Join b o cap xs sep w cells hbk hb.1 (by simpa using hcap) hb.2
   rw[List.length_map]
   refine this.mono ?_
   rintro e w' ⟨rfl,hbl⟩
   exact⟨_,rfl,Gi hbl,fun _ _ _=>.str _⟩
def fieldsD (s:ByteArray):List D:=(Lib.fields s.data.toList).map fun l=>D.str ⟨l.toArray⟩
def XB (n:Nat) (s:ByteArray):Option (List D):=if s.size<4294967281∧(s.data.toList.all fun b=>b.toNat<128)=true∧(Lib.fields s.data.toList).length≤maxLen then some (fieldsD s)else none
theorem ABf (n:Nat):∀⦃s:ByteArray⦄ ⦃r1:List D⦄,XB n s=some r1→Ct Tryz.prog inv 254 [.d (.str s)] [] (.v (.d (.list false 1 r1))) [] []:=by
 intro s r1 h
 unfold XB at h
 split at h
 ·rename_i hb
  cases h
  obtain⟨h1,h2,h3⟩:=hb
  refine Ct.iI (xs:=[.str s]) ⟨_,_,Tryz.func254,rfl,by kernel_rfl⟩ fun w Z vals hr hsz hv=>?_
  obtain⟨v,rfl⟩:∃v,vals=#[v]:=Array.size_eq_one_iff.1 hsz
  cases hv 0 _ _ rfl rfl
  refine (Tryz.strings_Fields s w h1 (fun j b hj=>by
   grind) hr.1).mono ?_
  rintro e w' ⟨rfl,rfl⟩
  refine⟨_,rfl,UP rfl rfl rfl (by simp) (fun b hb=>Go.RowKit.Below.heap_alloc w _ b hb),fun Z' _ _ hZ=>?_⟩
  have hl:(fieldsD s).length=(Lib.fields s.data.toList).length:=by simp[fieldsD]
  show AZ _ Z' (.list false 1 (fieldsD s)) _
  rw[←hl]
  refine .list false 1 (fieldsD s) _ _ w.heap.size 0 (fun i _=>.string ⟨((Lib.fields s.data.toList).getD i []).toArray⟩) (Nat.le_refl _) (by rw[hl];exact h3) ?_ (fun _=>rfl) ?_ ?_
  ·intro r hr
   obtain⟨l,_,rfl⟩:=List.mem_map.1 hr
   exact⟨rfl,rfl,fun c hc=>by simp[D.cells]at hc;subst hc;rfl⟩
  ·intro i r j c hi hj
   have hi':((Lib.fields s.data.toList).map fun l=>D.str ⟨l.toArray⟩)[i]?=some r:=hi
   rw[List.getElem?_map,Option.map_eq_some_iff]at hi'
   obtain⟨l,hl',rfl⟩:=hi'
   match j with
   | 0=>
    refine⟨?_,fun hz=>absurd (hZ _ _ hz) (Nat.lt_irrefl _)⟩
    simp_all
   | j+1=>simp[D.cells]at hj
  ·intro i r j c hi hj
   have hi':((Lib.fields s.data.toList).map fun l=>D.str ⟨l.toArray⟩)[i]?=some r:=hi
   rw[List.getElem?_map,Option.map_eq_some_iff]at hi'
   obtain⟨l,hl',rfl⟩:=hi'
   match j with
   | 0=>
    simp[D.cells]at hj
    subst hj
    simp only[List.getD_eq_getElem?_getD,hl',Option.getD_some]
    exact .str _
   | j+1=>simp[D.cells]at hj
 ·cases h
end Go.Proofs.YtjfmnfncmfepnaaGreatDoor
set_option maxRecDepth 100000
set_option maxHeartbeats 40000000
set_option linter.unusedVariables false
noncomputable section
namespace Go.Proofs.YtjfmnfncmfepnaaGreatDoor
open Go Go.AM
def Bo {γ:Type}(x:D) (k:Int->BA->LD->Int->BA->LD->LD->Int->Int->BA->BA->BA->LD->LD->Int->Int->Option γ):Option γ:=match x with | .agg [.int .u8 g,.str h,.list true 4 i,.int .u8 j,.str l,.list true 3 m,.list true 15 n,.int .u8 o,.int .i64 p,.str q,.str a,.str b,.list false 1 c,.list true 8 d,.int .i64 e,.int .i64 f]=>k g h i j l m n o p q a b c d e f | _=>none
theorem US {γ:Type}{x:D}{k:Int->BA->LD->Int->BA->LD->LD->Int->Int->BA->BA->BA->LD->LD->Int->Int->Option γ}{r:γ}(h:Bo x k=some r):∃g i j l m n o p q s a b c d e f,x= .agg [.int .u8 g,.str i,.list true 4 j,.int .u8 l,.str m,.list true 3 n,.list true 15 o,.int .u8 p,.int .i64 q,.str s,.str a,.str b,.list false 1 c,.list true 8 d,.int .i64 e,.int .i64 f]/\k g i j l m n o p q s a b c d e f=some r:=by
 unfold Bo at h
 grind
def Co {γ:Type}(x:D) (k:BA->Int->BA->LD->Option γ):Option γ:=match x with | .agg [.str a,.int .u8 b,.str c,.list true 3 d]=>k a b c d | _=>none
theorem UT {γ:Type}{x:D}{k:BA->Int->BA->LD->Option γ}{r:γ}(h:Co x k=some r):∃a b c d,x= .agg [.str a,.int .u8 b,.str c,.list true 3 d]/\k a b c d=some r:=by
 unfold Co at h
 grind
def Fx {γ:Type}(x:D) (k:Int->BA->LD->Option γ):Option γ:=match x with | .agg [.int .u8 a,.str b,.list true 3 c]=>k a b c | _=>none
theorem UU {γ:Type}{x:D}{k:Int->BA->LD->Option γ}{r:γ}(h:Fx x k=some r):∃a b c,x= .agg [.int .u8 a,.str b,.list true 3 c]/\k a b c=some r:=by
 unfold Fx at h
 grind
def Cp {γ:Type}(x:D) (k:Int->BA->BA->LD->Int->BA->LD->Int->BA->LD->LD->LD->LD->LD->Int->Option γ):Option γ:=match x with | .agg [.int .u8 f,.str g,.str h,.list false 1 i,.int .u8 j,.str l,.list true 3 m,.int .i64 n,.str o,.list false 1 p,.list true 8 a,.list true 15 b,.list true 15 c,.list true 3 d,.int .i64 e]=>k f g h i j l m n o p a b c d e | _=>none
theorem UW {γ:Type}{x:D}{k:Int->BA->BA->LD->Int->BA->LD->Int->BA->LD->LD->LD->LD->LD->Int->Option γ}{r:γ}(h:Cp x k=some r):∃f g i j l m n o p q a b c d e,x= .agg [.int .u8 f,.str g,.str i,.list false 1 j,.int .u8 l,.str m,.list true 3 n,.int .i64 o,.str p,.list false 1 q,.list true 8 a,.list true 15 b,.list true 15 c,.list true 3 d,.int .i64 e]/\k f g i j l m n o p q a b c d e=some r:=by
 unfold Cp at h
 grind
def CG {γ:Type}(x:D) (k:BA->Option γ):Option γ:=match x with | .str a=>k a | _=>none
theorem MD {γ:Type}{x:D}{k:BA->Option γ}{r:γ}(h:CG x k=some r):∃a,x= .str a/\k a=some r:=by
 unfold CG at h
 grind
def CQ {γ:Type}(x:D) (k:Int->Int->BA->BA->BA->LD->LD->Int->Option γ):Option γ:=match x with | .agg [.int .u8 a,.int .i64 b,.str c,.str d,.str e,.list false 1 f,.list true 8 g,.int .i64 h]=>k a b c d e f g h | _=>none
theorem UX {γ:Type}{x:D}{k:Int->Int->BA->BA->BA->LD->LD->Int->Option γ}{r:γ}(h:CQ x k=some r):∃a b c d e f g i,x= .agg [.int .u8 a,.int .i64 b,.str c,.str d,.str e,.list false 1 f,.list true 8 g,.int .i64 i]/\k a b c d e f g i=some r:=by
 unfold CQ at h
 grind
def EA {γ:Type}(x:D) (k:BA->BA->LD->Option γ):Option γ:=match x with | .agg [.str a,.str b,.list true 15 c]=>k a b c | _=>none
theorem UY {γ:Type}{x:D}{k:BA->BA->LD->Option γ}{r:γ}(h:EA x k=some r):∃a b c,x= .agg [.str a,.str b,.list true 15 c]/\k a b c=some r:=by
 unfold EA at h
 grind
def E4:BA:=⟨#[109,97,105,110]⟩
def Cq:BA:=⟨#[108,101,116,32,105,102,32,101,108,115,101,32,119,104,105,108,101,32,109,97,116,99,104,32,115,99,111,112,101,32,115,112,97,119,110,32,108,111,99,107,32,97,115,32,99,104,97,110,32,100,114,111,112,32,102,110,32,115,116,114,117,99,116,32,101,110,117,109,32,116,114,117,101,32,102,97,108,115,101,32,97,110,100,32,111,114,32,110,111,116,32,105,110,116,32,98,111,111,108,32,117,110,105,116,32,109,117,116,32,98,111,120,32,117,110,98,111,120,32,99,101,108,108,32,103,101,116,32,115,101,116,32,114,99,32,97,114,99,32,99,108,111,110,101,32,109,117,116,101,120,32,111,112,101,110,32,97,116,111,109,105,99,32,108,111,97,100,32,115,116,111,114,101,32,102,101,116,99,104,32,115,101,110,100,32,114,101,99,118,32,66,111,120,32,67,101,108,108,32,82,99,32,65,114,99,32,77,117,116,101,120,32,65,116,111,109,105,99,32,83,101,110,100,101,114,32,82,101,99,101,105,118,101,114]⟩
def CH {γ:Type}(x:D) (k:Int->Option γ):Option γ:=match x with | .int .i64 a=>k a | _=>none
theorem Hv {γ:Type}{x:D}{k:Int->Option γ}{r:γ}(h:CH x k=some r):∃a,x= .int .i64 a/\k a=some r:=by
 unfold CH at h
 grind
def k__:BA:=⟨#[42]⟩
def Iv {γ:Type}(x:D) (k:Bool->Option γ):Option γ:=match x with | .bool a=>k a | _=>none
theorem SO {γ:Type}{x:D}{k:Bool->Option γ}{r:γ}(h:Iv x k=some r):∃a,x= .bool a/\k a=some r:=by
 unfold Iv at h
 grind
def Eu {γ:Type}(x:D) (k:Bool->Option γ):Option γ:=match x with | .agg [.bool a]=>k a | _=>none
theorem SP {γ:Type}{x:D}{k:Bool->Option γ}{r:γ}(h:Eu x k=some r):∃a,x= .agg [.bool a]/\k a=some r:=by
 unfold Eu at h
 grind
def DI {γ:Type}(x:D) (k:Bool->BA->Option γ):Option γ:=match x with | .agg [.bool a,.str b]=>k a b | _=>none
theorem UZ {γ:Type}{x:D}{k:Bool->BA->Option γ}{r:γ}(h:DI x k=some r):∃a b,x= .agg [.bool a,.str b]/\k a b=some r:=by
 unfold DI at h
 grind
def KO {γ:Type}(x:D) (k:Int->Option γ):Option γ:=match x with | .int .u8 a=>k a | _=>none
theorem XC {γ:Type}{x:D}{k:Int->Option γ}{r:γ}(h:KO x k=some r):∃a,x= .int .u8 a/\k a=some r:=by
 unfold KO at h
 grind
def Pr:Unit->RF:=fun _=>⟨cP (cL (cR (cR (UQ Tryz.f68)))),cL (cL (cR (cR (UQ Tryz.f68)))),cR (cL (cR (cR (UQ Tryz.f68)))),19⟩
def Ef {γ:Type}(x:D) (k:Int->Int->Int->Int->LD->LD->Int->BA->LD->Option γ):Option γ:=match x with | .agg [.int .u8 a,.int .i64 b,.int .i64 c,.int .i64 d,.list false 1 e,.list false 1 f,.int .i64 g,.str h,.list false 1 i]=>k a b c d e f g h i | _=>none
theorem Ua {γ:Type}{x:D}{k:Int->Int->Int->Int->LD->LD->Int->BA->LD->Option γ}{r:γ}(h:Ef x k=some r):∃a b c d e f g i j,x= .agg [.int .u8 a,.int .i64 b,.int .i64 c,.int .i64 d,.list false 1 e,.list false 1 f,.int .i64 g,.str i,.list false 1 j]/\k a b c d e f g i j=some r:=by
 unfold Ef at h
 grind
def Jb {γ:Type}(x:D) (k:LD->LD->Option γ):Option γ:=match x with | .agg [.list false 1 a,.list true 15 b]=>k a b | _=>none
theorem Ub {γ:Type}{x:D}{k:LD->LD->Option γ}{r:γ}(h:Jb x k=some r):∃a b,x= .agg [.list false 1 a,.list true 15 b]/\k a b=some r:=by
 unfold Jb at h
 grind
def HI:BA:=⟨#[115,112,97,119,110]⟩
def Cr {γ:Type}(x:D) (k:BA->Int->Int->LD->Option γ):Option γ:=match x with | .agg [.str a,.int .i64 b,.int .i64 c,.list true 9 d]=>k a b c d | _=>none
theorem Uc {γ:Type}{x:D}{k:BA->Int->Int->LD->Option γ}{r:γ}(h:Cr x k=some r):∃a b c d,x= .agg [.str a,.int .i64 b,.int .i64 c,.list true 9 d]/\k a b c d=some r:=by
 unfold Cr at h
 grind
def Yv:BA:=⟨#[108,105,118,101]⟩
def Yw:BA:=⟨#[100,101,97,100]⟩
def Vk:BA:=⟨#[99,111,110,115,116]⟩
def wY:BA:=⟨#[117,115,101]⟩
def xA:BA:=⟨#[114,101,102]⟩
def xB:BA:=⟨#[109,117,116]⟩
def xC:BA:=⟨#[112,117,116]⟩
def qT:BA:=⟨#[100,114,111,112]⟩
def Vl:BA:=⟨#[117,110,97,114,121]⟩
def SQ:BA:=⟨#[98,105,110,97,114,121]⟩
def SR:BA:=⟨#[115,116,114,117,99,116]⟩
def Yx:BA:=⟨#[101,110,117,109]⟩
def Vm:BA:=⟨#[115,112,108,105,116]⟩
def Yy:BA:=⟨#[106,117,109,112]⟩
def SS:BA:=⟨#[98,114,97,110,99,104]⟩
def SU:BA:=⟨#[115,119,105,116,99,104]⟩
def Yz:BA:=⟨#[99,97,108,108]⟩
def ME:BA:=⟨#[114,101,116,117,114,110]⟩
def Y0:BA:=⟨#[119,114,97,112]⟩
def SV:BA:=⟨#[117,110,119,114,97,112]⟩
def kH:BA:=⟨#[99,108,111,110,101]⟩
def XD:BA:=⟨#[99,101,108,108,103,101,116]⟩
def XE:BA:=⟨#[99,101,108,108,115,101,116]⟩
def qU:BA:=⟨#[108,111,97,100]⟩
def kI:BA:=⟨#[115,116,111,114,101]⟩
def kJ:BA:=⟨#[102,101,116,99,104]⟩
def Y1:BA:=⟨#[99,104,97,110]⟩
def qV:BA:=⟨#[115,101,110,100]⟩
def qW:BA:=⟨#[114,101,99,118]⟩
def Y2:BA:=⟨#[108,111,99,107]⟩
def SW:BA:=⟨#[117,110,108,111,99,107]⟩
def Vn:BA:=⟨#[115,99,111,112,101]⟩
def Y3:BA:=⟨#[106,111,105,110]⟩
def K2 {γ:Type}(x:D) (k:BA->Int->Int->Bool->Bool->Bool->Bool->LD->Option γ):Option γ:=match x with | .agg [.str a,.int .i64 b,.int .i64 c,.bool d,.bool e,.bool f,.bool g,.list false 1 h]=>k a b c d e f g h | _=>none
theorem SX {γ:Type}{x:D}{k:BA->Int->Int->Bool->Bool->Bool->Bool->LD->Option γ}{r:γ}(h:K2 x k=some r):∃a b c d e f g i,x= .agg [.str a,.int .i64 b,.int .i64 c,.bool d,.bool e,.bool f,.bool g,.list false 1 i]/\k a b c d e f g i=some r:=by
 unfold K2 at h
 grind
def xD:BA:=⟨#[63]⟩
def xE:BA:=⟨#[32]⟩
def xF:BA:=⟨#[46]⟩
def xG:BA:=⟨#[44]⟩
def SY:BA:=⟨#[99,111,110,115,116,32,49,32,51]⟩
def SZ:BA:=⟨#[115,112,97,119,110,32,49,32,48]⟩
end Go.Proofs.YtjfmnfncmfepnaaGreatDoor
end
namespace Go.AM
open Go Go.RowKit
structure To where
 res:AV
 post:List AD
 new:List AD
section
variable {γ:Type}{r:γ}
def uQ (x:AV) (k:Bool→Option γ):Option γ:=
 match x with
 | .v (.d (.bool b))=>k b
 | _=>none
def Nb (x:AV) (k:Int→Option γ):Option γ:=
 match x with
 | .v (.d (.int _ n))=>k n
 | _=>none
def Ca (ti:Types) (t:TypeId) (k:TI→Option γ):Option γ:=
 match ti t with
 | some x=>k x
 | none=>none
def qX (x:AV) (k:Bool→Nat→List D→Option γ):Option γ:=
 match x with
 | .v (.d (.list ag sz rows))=>k ag sz rows
 | .v (.c (.lst _ ag sz rows))=>k ag sz rows
 | .v (.c (.nils ag sz))=>k ag sz []
 | .v (.c (.tl ag sz rows))=>k ag sz rows
 | _=>none
def BB (c:Bool) (x:Option γ):Option γ:=
 match c with
 | true=>x
 | false=>none
section
variable {ti:Types}{t:TypeId}
theorem Ab {k:TI→Option γ}{P:TI→Prop}(hk:∀i,k i=some r→P i) (h:Ca ti t k=some r):Ak ti t P:=by
 unfold Ca at h
 unfold Ak
 grind
theorem AN {c:Bool}{x:Option γ}{P:Prop}(hk:x=some r→P) (h:BB c x=some r):BH c P:=by
 cases c
 ·cases h
 ·exact hk h
variable {x:AV}
theorem Fy {k:Int→Option γ}{P:IntKind→Int→Prop}(hk:∀q n,k n=some r→P q n) (h:Nb x k=some r):C7 x P:=by
 unfold Nb at h
 split at h
 ·exact hk _ _ h
 ·cases h
theorem MF {k:Bool→Nat→List D→Option γ}{P:Bool→Nat→List D→Prop}(hk:∀a s l,k a s l=some r→P a s l) (h:qX x k=some r):GK x P:=by
 unfold qX at h
 split at h
 ·exact hk _ _ _ h
 ·exact hk _ _ _ h
 ·exact hk _ _ _ h
 ·exact hk _ _ _ h
 ·cases h
theorem qY {k:Bool→Option γ}{P:Bool→Prop}(hk:∀b,k b=some r→P b) (h:uQ x k=some r):N2 x P:=by
 unfold uQ at h
 split at h
 ·exact hk _ h
 ·cases h
def Ps (ti:Types) (t:TypeId) (x:AV) (h:Heap) (k:Out→Option γ):Option γ:=
 Ca ti t fun i=>match x with
 | .v (.c (.ptr id o))=>(match h id with
  | some (.cells cs)=>BB (Nat.ble (o+i.size) cs.length) (k ⟨.v (V1.Aa (AR i.desc) ((cs.drop o).take i.size)),[id],[]⟩)
  | _=>none)
 | .v (.c (.row ag sz d))=>BB (AR i.desc==ag) (BB (Nat.beq sz i.size) (k ⟨.v (.d d),[],[]⟩))
 | .v (.c (.rp cs))=>BB (Nat.ble i.size cs.length) (k ⟨.v (V1.Aa (AR i.desc) ((cs.take i.size).map CV.d)),[],[]⟩)
 | .v (.c (.fb id))=>BB (Nat.beq i.size 1) (k ⟨.v (V1.Aa (AR i.desc) [.ptr id 0]),[],[]⟩)
 | _=>none
variable {k:Out→Option γ}{P:Out→Prop}
theorem Oh {h:Heap}(hk:∀o,k o=some r→P o) (e:Ps ti t x h k=some r):Du ti t x h P:=by
 unfold Ps at e
 unfold Du
 refine Ab (fun i e=>?_) e
 split at e
 ·split at e
  ·rename_i hc
   simp only[hc]
   exact AN (hk _) e
  ·cases e
 ·exact AN (AN (hk _)) e
 ·exact AN (hk _) e
 ·exact AN (hk _) e
 ·cases e
def Pt (ti:Types) (t:TypeId) (x y:AV) (h:Heap) (k:Out→Option γ):Option γ:=
 Ca ti t fun i=>match y with
 | .v y=>(match x with
  | .v (.c (.ptr id o))=>(match h id with
   | some (.cells cs)=>BB (Nat.ble (o+i.size) cs.length) (BB (Nat.beq y.cells.length i.size) (k ⟨.u,[id],[(id,.cells (cs.take o++y.cells++cs.drop (o+i.size)))]⟩))
   | _=>none)
  | _=>none)
 | _=>none
theorem Ud {y:AV}{h:Heap}(hk:∀o,k o=some r→P o) (e:Pt ti t x y h k=some r):GL ti t x y h P:=by
 unfold Pt at e
 unfold GL
 refine Ab (fun i e=>?_) e
 split at e
 ·split at e
  ·split at e
   ·rename_i hc
    simp only[DL,hc]
    exact AN (AN (hk _)) e
   ·cases e
  ·cases e
 ·cases e
def Pu (ti:Types) (t:TypeId) (x:AV) (f:Nat) (k:Out→Option γ):Option γ:=
 Ca ti t fun i=>match i.desc with
 | .struct fs=>(match fs[f]? with
  | some fd=>Ca ti fd.type fun j=>BB (Nat.blt 0 j.size) (match x with
   | .v (.c (.ptr id o))=>k ⟨.v (.c (.ptr id (o+fd.offset))),[],[]⟩
   | .v (.c (.row _ _ d))=>k ⟨.v (.c (.rp (d.cells.drop fd.offset))),[],[]⟩
   | .v (.c (.rp cs))=>k ⟨.v (.c (.rp (cs.drop fd.offset))),[],[]⟩
   | _=>none)
  | none=>none)
 | _=>none
theorem Ue {f:Nat}(hk:∀o,k o=some r→P o) (e:Pu ti t x f k=some r):GM ti t x f P:=by
 unfold Pu at e
 unfold GM
 refine Ab (fun i e=>?_) e
 split at e
 ·rename_i fs hf
  split at e
  ·rename_i fd hfd
   simp only[hf,hfd]
   refine Ab (fun j e=>AN (fun e=>?_) e) e
   grind
  ·cases e
 ·cases e
abbrev Ds (γ:Type):=TypeId→D→(D→Option γ)→Option γ
def Ds.ok (ds:Ds γ):Prop:=∀t x k r,ds t x k=some r→k x=some r
theorem oL {c:Bool}{x:Option γ}(h:BB c x=some r):c=true∧x=some r:=by
 cases c
 ·cases h
 ·exact⟨rfl,h⟩
def Pv (ds:Ds γ) (ti:Types) (t:TypeId) (x i:AV) (k:Out→Option γ):Option γ:=
 Nb i fun n=>Ca ti t fun q=>match q.desc with
 | .slice e=>Ca ti e fun j=>(match x with
  | .v (.c (.sl id len))=>(match n with
   | .ofNat p=>BB (Nat.blt p len) (k ⟨.v (.c (.ptr id (p*j.size))),[],[]⟩)
   | .negSucc _=>none)
  | x=>qX x fun ag sz rows=>BB (AR j.desc==ag)<| BB (Nat.beq sz j.size)<| An rows n fun d=>ds e d fun d=>k ⟨.v (.c (.row ag sz d)),[],[]⟩)
 | .array len e=>Ca ti e fun j=>(match x with
  | .v (.c (.ptr id o))=>(match n with
   | .ofNat p=>BB (Nat.blt p len) (k ⟨.v (.c (.ptr id (o+p*j.size))),[],[]⟩)
   | .negSucc _=>none)
  | _=>none)
 | _=>none
theorem Uf {ds:Ds γ}(hd:ds.ok) {i:AV}(hk:∀o,k o=some r→P o) (e:Pv ds ti t x i k=some r):ER ti t x i P:=by
 unfold Pv at e
 unfold ER
 refine Fy (fun _ n e=>Ab (fun q e=>?_) e) e
 split at e
 ·rename_i el hq
  simp only[hq]
  refine Ab (fun j e=>?_) e
  split at e
  ·split at e
   ·obtain⟨h1,e⟩:=oL e
    exact⟨_,⟨rfl,by simpa using h1⟩,hk _ e⟩
   ·cases e
  have main:GK x fun ag sz rows=>BH (AR j.desc==ag)<| BH (Nat.beq sz j.size)<| ∃r_1,0≤n∧rows[n.toNat]?=some r_1∧P ⟨.v (.c (.row ag sz r_1)),[],[]⟩:=by
   refine MF (fun ag sz rows e=>AN (AN fun e=>?_) e) e
   obtain⟨d,⟨h1,h2⟩,h3⟩:=L8 e
   exact⟨d,h1,h2,hk _ (hd _ _ _ _ h3)⟩
  simp_all
 ·rename_i hq
  simp only[hq]
  refine Ab (fun j e=>?_) e
  split at e
  ·split at e
   ·obtain⟨h1,e⟩:=oL e
    simp_all
   ·cases e
  ·cases e
 ·cases e
def qZ (op:UnOp) (x:AV) (k:Out→Option γ):Option γ:=
 match op,x with
 | .not,.v (.d (.bool b))=>Aw (!b) fun q=>k ⟨.v (.d (.bool q)),[],[]⟩
 | _,_=>none
theorem kK {op:UnOp}(hk:∀o,k o=some r→P o) (e:qZ op x k=some r):VQ op x P:=by
 unfold qZ at e
 split at e
 ·exact⟨_,EG _,hk _ e⟩
 ·cases e
def Y4 (ti:Types) (t:TypeId) (x:AV) (k:Out→Option γ):Option γ:=
 Ca ti t fun q=>match q.desc with
 | .slice _=>(match x with
  | .v (.c (.sl _ n))=>k ⟨.v (.d (.int .i64 n)),[],[]⟩
  | x=>qX x fun _ _ rows=>AP rows fun z=>k ⟨.v (.d (.int .i64 z)),[],[]⟩)
 | .string=>(match x with
  | .v (.d (.str s))=>Xn s fun z=>k ⟨.v (.d (.int .i64 z)),[],[]⟩
  | _=>none)
 | .array n _=>k ⟨.v (.d (.int .i64 n)),[],[]⟩
 | _=>none
theorem Y5 {M:Au}(hk:∀o,k o=some r→P o) (e:Y4 ti t x k=some r):LG M ti t x P:=by
 unfold Y4 at e
 unfold LG
 refine Ab (fun q e=>?_) e
 split at e
 ·rename_i hq
  simp only[hq]
  split at e
  ·simp_all
  have main:GK x fun _ _ rows=>∃z:Int,M.lenI rows=z∧P ⟨.v (.d (.int .i64 z)),[],[]⟩:=MF (fun _ _ rows e=>(Ge M e).imp fun z h=>⟨h.1,hk _ h.2⟩) e
  simp_all
 ·rename_i hq
  simp only[hq]
  split at e
  ·exact (jU M e).imp fun z h=>⟨h.1,hk _ h.2⟩
  ·cases e
 ·simp_all
 ·cases e
def Pw (ti:Types) (s:AL) (fs:List Field) (cs:List CV):List (Nat×Operand)→(List CV→Option γ)→Option γ
 | [],k=>k cs
 | (i,x)::r,k=>match fs[i]? with
  | some fd=>Ca ti fd.type fun j=>(match AX ti s fd.type x with
   | .v y=>BB (Nat.beq y.cells.length j.size)<| BB (Nat.ble (fd.offset+j.size) cs.length)<| Pw ti s fs (cs.take fd.offset++y.cells++cs.drop (fd.offset+j.size)) r k
   | _=>none)
  | none=>none
theorem Oi {ti:Types}{s:AL}{fs:List Field}:∀{l:List (Nat×Operand)}{cs:List CV}{k:List CV→Option γ}{P:List CV→Prop},(∀cs,k cs=some r→P cs)→Pw ti s fs cs l k=some r→N3 ti s fs cs l P
 | [],_,_,_,hk,e=>hk _ e
 | (i,x)::l,cs,k,P,hk,e=>by
  unfold Pw at e
  unfold N3
  split at e
  ·rename_i fd hfd
   simp only[hfd]
   refine Ab (fun j e=>?_) e
   split at e
   ·rename_i y hy
    simp only[hy,DL]
    exact AN (AN fun e=>Oi hk e) e
   ·cases e
  ·cases e
def K4 (ti:Types) (s:AL) (e:TypeId) (sz:Nat) (cs:List CV):List (Nat×Operand)→(List CV→Option γ)→Option γ
 | [],k=>k cs
 | (i,x)::r,k=>match AX ti s e x with
  | .v y=>BB (Nat.beq y.cells.length sz)<| BB (Nat.ble (i*sz+sz) cs.length)<| K4 ti s e sz (cs.take (i*sz)++y.cells++cs.drop (i*sz+sz)) r k
  | _=>none
theorem MG {ti:Types}{s:AL}{e:TypeId}{sz:Nat}:∀{l:List (Nat×Operand)}{cs:List CV}{k:List CV→Option γ}{P:List CV→Prop},(∀cs,k cs=some r→P cs)→K4 ti s e sz cs l k=some r→N4 ti s e sz cs l P
 | [],_,_,_,hk,h=>hk _ h
 | (i,x)::l,cs,k,P,hk,h=>by
  unfold K4 at h
  unfold N4
  split at h
  ·rename_i y hy
   simp only[hy,DL]
   exact AN (AN fun h=>MG hk h) h
  ·cases h
def Px (ti:Types) (s:AL) (t:TypeId) (parts:List (Nat×Operand)) (k:Out→Option γ):Option γ:=
 Ca ti t fun q=>match q.desc with
 | .struct fs=>BB (RC ti fs.toList)<| Pw ti s fs.toList q.zc parts fun cs=>k ⟨.v (V1.Aa true cs),[],[]⟩
 | .array _ e=>Ca ti e fun j=>K4 ti s e j.size q.zc parts fun cs=>k ⟨.v (V1.Aa true cs),[],[]⟩
 | _=>none
theorem Ug {s:AL}{parts:List (Nat×Operand)}(hk:∀o,k o=some r→P o) (e:Px ti s t parts k=some r):GP ti s t parts P:=by
 unfold Px at e
 unfold GP
 refine Ab (fun q e=>?_) e
 split at e
 ·rename_i hq
  simp only[hq]
  exact AN (fun e=>Oi (fun cs h=>hk _ h) e) e
 ·rename_i hq
  simp only[hq]
  exact Ab (fun j e=>MG (fun cs h=>hk _ h) e) e
 ·cases e
def MH (ti:Types) (t:TypeId) (x:AV) (f:Nat) (k:Out→Option γ):Option γ:=
 Ca ti t fun i=>match i.desc with
 | .struct fs=>(match fs[f]? with
  | some fd=>Ca ti fd.type fun j=>(match x with
   | .v y=>BB (PO y)<| BB (Nat.ble (fd.offset+j.size) y.cells.length)<| k ⟨.v (V1.Aa (AR j.desc) ((y.cells.drop fd.offset).take j.size)),[],[]⟩
   | _=>none)
  | none=>none)
 | _=>none
theorem Sa {f:Nat}(hk:∀o,k o=some r→P o) (e:MH ti t x f k=some r):FI ti t x f P:=by
 unfold MH at e
 unfold FI
 refine Ab (fun i e=>?_) e
 split at e
 ·rename_i fs hf
  split at e
  ·rename_i fd hfd
   simp only[hf,hfd]
   refine Ab (fun j e=>?_) e
   split at e
   ·simp only[DL];exact AN (AN (hk _)) e
   ·cases e
  ·cases e
 ·cases e
def Jc (x:AV) (i:Nat) (k:Out→Option γ):Option γ:=
 match x with
 | .t xs=>(match WK xs i with
  | some y=>k ⟨.v y,[],[]⟩
  | none=>none)
 | _=>none
theorem Py {i:Nat}(hk:∀o,k o=some r→P o) (e:Jc x i k=some r):ES x i P:=by
 unfold Jc at e
 split at e
 ·split at e
  ·rename_i hy
   simp only[ES,hy];exact hk _ e
  ·cases e
 ·cases e
def Jd (ti:Types) (src dst:TypeId) (x:AV) (k:Out→Option γ):Option γ:=
 Ca ti src fun a=>Ca ti dst fun b=>match a.desc,b.desc with
 | .int _,.int q=>Nb x fun n=>AW (q.wrap n) fun z=>k ⟨.v (.d (.int q z)),[],[]⟩
 | _,_=>none
theorem Pz {src dst:TypeId}(hk:∀o,k o=some r→P o) (e:Jd ti src dst x k=some r):ET ti src dst x P:=by
 unfold Jd at e
 unfold ET
 refine Ab (fun a e=>Ab (fun b e=>?_) e) e
 split at e
 ·rename_i h1 h2
  simp only[h1,h2]
  exact Fy (fun _ n e=>(L7 e).imp fun z h=>⟨h.1,hk _ h.2⟩) e
 ·cases e
end
end
end Go.AM
namespace Go.AM
open Go
def Wp {α:Type}(A:Nat→Option α) (P:α→Prop):Prop:=∃r,Ev A r∧P r
section
variable {α γ:Type}{P:γ→Prop}
theorem wS {a:γ}(h:P a):Wp (fun _=>some a) P:=⟨a,.ret,h⟩
section
variable {A:Nat→Option γ}
theorem wU (h:Wp (fun n=>A (n+1)) P):Wp A P:=let ⟨r,h1,h2⟩:=h;⟨r,h1.succ,h2⟩
theorem wM {Q:γ→Prop}(h:Wp A Q) (hq:∀r,Q r→P r):Wp A P:=let ⟨r,h1,h2⟩:=h;⟨r,h1,hq r h2⟩
theorem wO {A:Nat→Option α}{B:Nat→Option α→Option γ}{Q:α→Prop}(h:Wp A Q) (hk:∀r,Q r→Wp (fun n=>B n (some r)) P):Wp (fun n=>B n (A n)) P:=by
 obtain⟨r,⟨N,h1⟩,h2⟩:=h
 obtain⟨s,⟨M,h3⟩,h4⟩:=hk r h2
 refine⟨s,⟨N+M,fun n hn=>?_⟩,h4⟩
 grind
variable {l:List D}{k:Nat→Int→Option γ}
theorem wL (h:Wp (fun n=>k n (l.length:Int)) P):Wp (fun n=>AP l (k n)) P:=h
variable {s:ByteArray}
theorem wZ (h:Wp (fun n=>k n (s.size:Int)) P):Wp (fun n=>Xn s (k n)) P:=h
theorem wT {e:Int}(h:Wp (fun n=>k n e) P):Wp (fun n=>AW e (k n)) P:=h
theorem wW {e x:Int}(hx:e=x) (h1: -9223372036854775808≤x∧x≤9223372036854775807) (h:Wp (fun n=>k n x) P):Wp (fun n=>AW (IntKind.wrap .i64 e) (k n)) P:=by
 subst hx
 show Wp (fun n=>k n (IntKind.wrap .i64 e)) P
 rw[Wx h1]
 exact h
theorem wi {i:Nat}(h1:i<9223372036854775807) (h:Wp (fun n=>k n ((i+1:Nat):Int)) P):Wp (fun n=>AW (IntKind.wrap .i64 ((i:Int)+1)) (k n)) P:=wW (by omega) (by omega) h
theorem ap {b:Nat}{m:List D}(h1:l.length+m.length≤2000000000) (hb:b≤1000):l.length+m.length≤maxLen∧(l.length+m.length)*b≤140737488355328:=by
 have:maxLen=9223372036854775807:=rfl
 exact⟨by omega,Nat.le_trans (Nat.mul_le_mul h1 hb) (by decide)⟩
theorem wa {z:Int}(h1:0≤z∧z<s.size) (h:∀y:Int,Wp (fun n=>k n y) P):Wp (fun n=>oB s z (k n)) P:=by
 have hx:s[z.toNat]?=some (s[z.toNat]'(by omega)):=by rw[getElem?_pos]
 simp only[oB,if_pos h1.1,hx,Option.map_some];exact h _
def Ap (V:List D→Prop) (l:List D):Prop:=∀x∈l,∃s vs,x= .agg (.str s::vs)∧V vs
variable {V:List D→Prop}
theorem Ap.nil:Ap V []:=fun x hx=>by cases hx
theorem Je {V:List D→Prop}{e:Bool}{s:ByteArray}:∀{l:List D},Ap V l→∃r,GC e (.str s) l=some r∧∀y,r=some y→∃vs,V vs∧y=rowOf e vs
 | [],_=>⟨none,rfl,fun y h=>by cases h⟩
 | x::l,h=>by
  obtain⟨k,vs,rfl,hv⟩:=h x (List.mem_cons_self ..)
  obtain⟨r,h1,h2⟩:=Je (e:=e) (s:=s) fun y hy=>h y (List.mem_cons_of_mem _ hy)
  unfold GC
  simp only[YE]
  grind
theorem MI {V:List D→Prop}{s:ByteArray}{ws:List D}(hw:V ws):∀{l:List D},Ap V l→∃r,Kb (.str s) ws l=some r∧Ap V r∧r.length≤l.length+1
 | [],_=>⟨_,rfl,fun x hx=>by grind,Nat.le_refl _⟩
 | x::l,h=>by
  obtain⟨k,vs,rfl,hv⟩:=h x (List.mem_cons_self ..)
  have ht:Ap V l:=fun y hy=>h y (List.mem_cons_of_mem _ hy)
  obtain⟨r,h1,h2,h3⟩:=MI (s:=s) hw ht
  unfold Kb
  simp only[YE]
  split
  ·exact⟨_,rfl,fun y hy=>by
    rcases List.mem_cons.1 hy with rfl | hy
    ·grind
    ·exact ht y hy,by simp⟩
  ·rw[h1]
   exact⟨_,rfl,fun y hy=>by
    rcases List.mem_cons.1 hy with rfl | hy
    ·grind
    ·exact h2 y hy,by simp;omega⟩
  simp_all
theorem wF {e:Bool}{k1:Nat→D→Option γ}{k0:Nat→Option γ}(h:Ap V l) (h1:∀vs,V vs→Wp (fun n=>k1 n (rowOf e vs)) P) (h0:Wp k0 P):Wp (fun n=>findF e (.str s) l (k1 n) (k0 n)) P:=by
 obtain⟨r,h2,h3⟩:=Je (e:=e) (s:=s) h
 simp only[findF,h2]
 cases r with
 | none=>exact h0
 | some y=>
  grind
theorem wP {ws:List D}{k:Nat→List D→Option γ}(h:Ap V l) (hw:V ws) (h1:∀r,Ap V r→r.length≤l.length+1→Wp (fun n=>k n r) P):Wp (fun n=>CO (.str s) ws l (k n)) P:=by
 obtain⟨r,h2,h3,h4⟩:=MI (s:=s) hw h
 simp only[CO,h2]
 exact h1 r h3 h4
abbrev Tl (A:Nat→Option γ):Prop:=Wp A fun _=>True
theorem kL {α β:Type}{x:Nat→Option (α ⊕ β)}{f:Nat→α→Option γ}{g:Nat→β→Option γ}{Q:α ⊕ β→Prop}(h:Wp x Q) (h1:∀a,Q (.inl a)→Wp (fun n=>f n a) P) (h2:∀b,Q (.inr b)→Wp (fun n=>g n b) P):Wp (fun n=>bS (x n) (f n) (g n)) P:=wO (B:=fun n x=>bS x (f n) (g n)) h fun r hr=>by
 cases r with
 | inl a=>exact h1 a hr
 | inr b=>exact h2 b hr
theorem wB {e:Bool}{k:Nat→Bool→Option γ}(h:Wp (fun n=>k n e) P):Wp (fun n=>Aw e (k n)) P:=h
theorem wX {e:List D}{k:Nat→List D→Option γ}(h:Wp (fun n=>k n e) P):Wp (fun n=>Hs e (k n)) P:=h
theorem wI {c:Prop} [Decidable c] {B:Nat→Option γ}(h1:c→Wp A P) (h2:¬c→Wp B P):Wp (fun n=>if c then A n else B n) P:=by
 by_cases h:c
 ·simp_all
 simp_all
theorem wN {c:Prop} [Decidable c] (h1:c) (h:Wp A P):Wp (fun n=>Bs c (A n)) P:=by
 simp only[Bs,if_pos h1];exact h
theorem wG {z:Int}{k:Nat→D→Option γ}(h1:0≤z∧z<l.length) (h:∀x,l[z.toNat]?=some x→Wp (fun n=>k n x) P):Wp (fun n=>An l z (k n)) P:=by
 have hx:l[z.toNat]?=some (l[z.toNat]'(by omega)):=List.getElem?_eq_getElem (by omega)
 simp only[An,if_pos h1.1,hx];exact h _ hx
theorem wK {z:Nat}{k:Nat→D→Option γ}(h1:z<l.length) (h:∀x,l[z]?=some x→Wp (fun n=>k n x) P):Wp (fun n=>EJ l z (k n)) P:=by
 have hx:l[z]?=some (l[z]'h1):=List.getElem?_eq_getElem h1
 simp only[EJ,hx];exact h _ hx
theorem wA {b:Nat}{m:List D}{k:Nat→List D→Option γ}(h1:l.length+m.length≤maxLen∧(l.length+m.length)*b≤140737488355328) (h:Wp (fun n=>k n (l++m)) P):Wp (fun n=>DH b l m (k n)) P:=by
 simp only[DH,if_pos h1];exact h
end
end
abbrev W1 {A1:Type}(A:Nat→Option (A1)) (Q:A1→Prop):Prop:=Wp A fun r=>Q r
section
variable {A1:Type}
theorem c1 {γ:Type}{P:γ→Prop}{A:Nat→Option (A1)}{Q:A1→Prop}{k:Nat→A1→Option γ}(h:W1 A Q) (hk:∀a1,Q a1→Wp (fun n=>k n a1) P):Wp (fun n=>Av (A n) (k n)) P:=wO (B:=fun n x=>Av x (k n)) h fun _ hr=>hk _ hr
abbrev W2 {A1 A2:Type}(A:Nat→Option (A1×A2)) (Q:A1→A2→Prop):Prop:=Wp A fun r=>Q r.1 r.2
variable {A2:Type}
theorem c2 {γ:Type}{P:γ→Prop}{A:Nat→Option (A1×A2)}{Q:A1→A2→Prop}{k:Nat→A1→A2→Option γ}(h:W2 A Q) (hk:∀a1 a2,Q a1 a2→Wp (fun n=>k n a1 a2) P):Wp (fun n=>Ir (A n) (k n)) P:=wO (B:=fun n x=>Ir x (k n)) h fun _ hr=>hk _ _ hr
abbrev W3 {A1 A2 A3:Type}(A:Nat→Option (A1×A2×A3)) (Q:A1→A2→A3→Prop):Prop:=Wp A fun r=>Q r.1 r.2.1 r.2.2
variable {A3:Type}
theorem c3 {γ:Type}{P:γ→Prop}{A:Nat→Option (A1×A2×A3)}{Q:A1→A2→A3→Prop}{k:Nat→A1→A2→A3→Option γ}(h:W3 A Q) (hk:∀a1 a2 a3,Q a1 a2 a3→Wp (fun n=>k n a1 a2 a3) P):Wp (fun n=>EK (A n) (k n)) P:=wO (B:=fun n x=>EK x (k n)) h fun _ hr=>hk _ _ _ hr
abbrev W4 {A1 A2 A3 A4:Type}(A:Nat→Option (A1×A2×A3×A4)) (Q:A1→A2→A3→A4→Prop):Prop:=Wp A fun r=>Q r.1 r.2.1 r.2.2.1 r.2.2.2
variable {A4:Type}
theorem c4 {γ:Type}{P:γ→Prop}{A:Nat→Option (A1×A2×A3×A4)}{Q:A1→A2→A3→A4→Prop}{k:Nat→A1→A2→A3→A4→Option γ}(h:W4 A Q) (hk:∀a1 a2 a3 a4,Q a1 a2 a3 a4→Wp (fun n=>k n a1 a2 a3 a4) P):Wp (fun n=>oC (A n) (k n)) P:=wO (B:=fun n x=>oC x (k n)) h fun _ hr=>hk _ _ _ _ hr
abbrev W5 {A1 A2 A3 A4 A5:Type}(A:Nat→Option (A1×A2×A3×A4×A5)) (Q:A1→A2→A3→A4→A5→Prop):Prop:=Wp A fun r=>Q r.1 r.2.1 r.2.2.1 r.2.2.2.1 r.2.2.2.2
variable {A5:Type}
theorem c5 {γ:Type}{P:γ→Prop}{A:Nat→Option (A1×A2×A3×A4×A5)}{Q:A1→A2→A3→A4→A5→Prop}{k:Nat→A1→A2→A3→A4→A5→Option γ}(h:W5 A Q) (hk:∀a1 a2 a3 a4 a5,Q a1 a2 a3 a4 a5→Wp (fun n=>k n a1 a2 a3 a4 a5) P):Wp (fun n=>jZ (A n) (k n)) P:=wO (B:=fun n x=>jZ x (k n)) h fun _ hr=>hk _ _ _ _ _ hr
abbrev W6 {A1 A2 A3 A4 A5 A6:Type}(A:Nat→Option (A1×A2×A3×A4×A5×A6)) (Q:A1→A2→A3→A4→A5→A6→Prop):Prop:=Wp A fun r=>Q r.1 r.2.1 r.2.2.1 r.2.2.2.1 r.2.2.2.2.1 r.2.2.2.2.2
variable {A6:Type}
theorem c6 {γ:Type}{P:γ→Prop}{A:Nat→Option (A1×A2×A3×A4×A5×A6)}{Q:A1→A2→A3→A4→A5→A6→Prop}{k:Nat→A1→A2→A3→A4→A5→A6→Option γ}(h:W6 A Q) (hk:∀a1 a2 a3 a4 a5 a6,Q a1 a2 a3 a4 a5 a6→Wp (fun n=>k n a1 a2 a3 a4 a5 a6) P):Wp (fun n=>Kx (A n) (k n)) P:=wO (B:=fun n x=>Kx x (k n)) h fun _ hr=>hk _ _ _ _ _ _ hr
abbrev W7 {A1 A2 A3 A4 A5 A6 A7:Type}(A:Nat→Option (A1×A2×A3×A4×A5×A6×A7)) (Q:A1→A2→A3→A4→A5→A6→A7→Prop):Prop:=Wp A fun r=>Q r.1 r.2.1 r.2.2.1 r.2.2.2.1 r.2.2.2.2.1 r.2.2.2.2.2.1 r.2.2.2.2.2.2
variable {A7:Type}
theorem c7 {γ:Type}{P:γ→Prop}{A:Nat→Option (A1×A2×A3×A4×A5×A6×A7)}{Q:A1→A2→A3→A4→A5→A6→A7→Prop}{k:Nat→A1→A2→A3→A4→A5→A6→A7→Option γ}(h:W7 A Q) (hk:∀a1 a2 a3 a4 a5 a6 a7,Q a1 a2 a3 a4 a5 a6 a7→Wp (fun n=>k n a1 a2 a3 a4 a5 a6 a7) P):Wp (fun n=>qL (A n) (k n)) P:=wO (B:=fun n x=>qL x (k n)) h fun _ hr=>hk _ _ _ _ _ _ _ hr
abbrev W8 {A1 A2 A3 A4 A5 A6 A7 A8:Type}(A:Nat→Option (A1×A2×A3×A4×A5×A6×A7×A8)) (Q:A1→A2→A3→A4→A5→A6→A7→A8→Prop):Prop:=Wp A fun r=>Q r.1 r.2.1 r.2.2.1 r.2.2.2.1 r.2.2.2.2.1 r.2.2.2.2.2.1 r.2.2.2.2.2.2.1 r.2.2.2.2.2.2.2
variable {A8:Type}
theorem c8 {γ:Type}{P:γ→Prop}{A:Nat→Option (A1×A2×A3×A4×A5×A6×A7×A8)}{Q:A1→A2→A3→A4→A5→A6→A7→A8→Prop}{k:Nat→A1→A2→A3→A4→A5→A6→A7→A8→Option γ}(h:W8 A Q) (hk:∀a1 a2 a3 a4 a5 a6 a7 a8,Q a1 a2 a3 a4 a5 a6 a7 a8→Wp (fun n=>k n a1 a2 a3 a4 a5 a6 a7 a8) P):Wp (fun n=>kA (A n) (k n)) P:=wO (B:=fun n x=>kA x (k n)) h fun _ hr=>hk _ _ _ _ _ _ _ _ hr
abbrev W9 {A1 A2 A3 A4 A5 A6 A7 A8 A9:Type}(A:Nat→Option (A1×A2×A3×A4×A5×A6×A7×A8×A9)) (Q:A1→A2→A3→A4→A5→A6→A7→A8→A9→Prop):Prop:=Wp A fun r=>Q r.1 r.2.1 r.2.2.1 r.2.2.2.1 r.2.2.2.2.1 r.2.2.2.2.2.1 r.2.2.2.2.2.2.1 r.2.2.2.2.2.2.2.1 r.2.2.2.2.2.2.2.2
variable {A9:Type}
theorem c9 {γ:Type}{P:γ→Prop}{A:Nat→Option (A1×A2×A3×A4×A5×A6×A7×A8×A9)}{Q:A1→A2→A3→A4→A5→A6→A7→A8→A9→Prop}{k:Nat→A1→A2→A3→A4→A5→A6→A7→A8→A9→Option γ}(h:W9 A Q) (hk:∀a1 a2 a3 a4 a5 a6 a7 a8 a9,Q a1 a2 a3 a4 a5 a6 a7 a8 a9→Wp (fun n=>k n a1 a2 a3 a4 a5 a6 a7 a8 a9) P):Wp (fun n=>kB (A n) (k n)) P:=wO (B:=fun n x=>kB x (k n)) h fun _ hr=>hk _ _ _ _ _ _ _ _ _ hr
abbrev DJ {A1 A2 A3 A4 A5 A6 A7 A8 A9 A10:Type}(A:Nat→Option (A1×A2×A3×A4×A5×A6×A7×A8×A9×A10)) (Q:A1→A2→A3→A4→A5→A6→A7→A8→A9→A10→Prop):Prop:=Wp A fun r=>Q r.1 r.2.1 r.2.2.1 r.2.2.2.1 r.2.2.2.2.1 r.2.2.2.2.2.1 r.2.2.2.2.2.2.1 r.2.2.2.2.2.2.2.1 r.2.2.2.2.2.2.2.2.1 r.2.2.2.2.2.2.2.2.2
variable {A10:Type}
theorem Y6 {γ:Type}{P:γ→Prop}{A:Nat→Option (A1×A2×A3×A4×A5×A6×A7×A8×A9×A10)}{Q:A1→A2→A3→A4→A5→A6→A7→A8→A9→A10→Prop}{k:Nat→A1→A2→A3→A4→A5→A6→A7→A8→A9→A10→Option γ}(h:DJ A Q) (hk:∀a1 a2 a3 a4 a5 a6 a7 a8 a9 a10,Q a1 a2 a3 a4 a5 a6 a7 a8 a9 a10→Wp (fun n=>k n a1 a2 a3 a4 a5 a6 a7 a8 a9 a10) P):Wp (fun n=>BO (A n) (k n)) P:=wO (B:=fun n x=>BO x (k n)) h fun _ hr=>hk _ _ _ _ _ _ _ _ _ _ hr
abbrev uR {A1 A2 A3 A4 A5 A6 A7 A8 A9 A10 A11:Type}(A:Nat→Option (A1×A2×A3×A4×A5×A6×A7×A8×A9×A10×A11)) (Q:A1→A2→A3→A4→A5→A6→A7→A8→A9→A10→A11→Prop):Prop:=Wp A fun r=>Q r.1 r.2.1 r.2.2.1 r.2.2.2.1 r.2.2.2.2.1 r.2.2.2.2.2.1 r.2.2.2.2.2.2.1 r.2.2.2.2.2.2.2.1 r.2.2.2.2.2.2.2.2.1 r.2.2.2.2.2.2.2.2.2.1 r.2.2.2.2.2.2.2.2.2.2
variable {A11:Type}
theorem rA {γ:Type}{P:γ→Prop}{A:Nat→Option (A1×A2×A3×A4×A5×A6×A7×A8×A9×A10×A11)}{Q:A1→A2→A3→A4→A5→A6→A7→A8→A9→A10→A11→Prop}{k:Nat→A1→A2→A3→A4→A5→A6→A7→A8→A9→A10→A11→Option γ}(h:uR A Q) (hk:∀a1 a2 a3 a4 a5 a6 a7 a8 a9 a10 a11,Q a1 a2 a3 a4 a5 a6 a7 a8 a9 a10 a11→Wp (fun n=>k n a1 a2 a3 a4 a5 a6 a7 a8 a9 a10 a11) P):Wp (fun n=>BW (A n) (k n)) P:=wO (B:=fun n x=>BW x (k n)) h fun _ hr=>hk _ _ _ _ _ _ _ _ _ _ _ hr
abbrev W13 {A1 A2 A3 A4 A5 A6 A7 A8 A9 A10 A11 A12 A13:Type}(A:Nat→Option (A1×A2×A3×A4×A5×A6×A7×A8×A9×A10×A11×A12×A13)) (Q:A1→A2→A3→A4→A5→A6→A7→A8→A9→A10→A11→A12→A13→Prop):Prop:=Wp A fun r=>Q r.1 r.2.1 r.2.2.1 r.2.2.2.1 r.2.2.2.2.1 r.2.2.2.2.2.1 r.2.2.2.2.2.2.1 r.2.2.2.2.2.2.2.1 r.2.2.2.2.2.2.2.2.1 r.2.2.2.2.2.2.2.2.2.1 r.2.2.2.2.2.2.2.2.2.2.1 r.2.2.2.2.2.2.2.2.2.2.2.1 r.2.2.2.2.2.2.2.2.2.2.2.2
variable {A12 A13:Type}
theorem c13 {γ:Type}{P:γ→Prop}{A:Nat→Option (A1×A2×A3×A4×A5×A6×A7×A8×A9×A10×A11×A12×A13)}{Q:A1→A2→A3→A4→A5→A6→A7→A8→A9→A10→A11→A12→A13→Prop}{k:Nat→A1→A2→A3→A4→A5→A6→A7→A8→A9→A10→A11→A12→A13→Option γ}(h:W13 A Q) (hk:∀a1 a2 a3 a4 a5 a6 a7 a8 a9 a10 a11 a12 a13,Q a1 a2 a3 a4 a5 a6 a7 a8 a9 a10 a11 a12 a13→Wp (fun n=>k n a1 a2 a3 a4 a5 a6 a7 a8 a9 a10 a11 a12 a13) P):Wp (fun n=>MA (A n) (k n)) P:=wO (B:=fun n x=>MA x (k n)) h fun _ hr=>hk _ _ _ _ _ _ _ _ _ _ _ _ _ hr
abbrev W17 {A1 A2 A3 A4 A5 A6 A7 A8 A9 A10 A11 A12 A13 A14 A15 A16 A17:Type}(A:Nat→Option (A1×A2×A3×A4×A5×A6×A7×A8×A9×A10×A11×A12×A13×A14×A15×A16×A17)) (Q:A1→A2→A3→A4→A5→A6→A7→A8→A9→A10→A11→A12→A13→A14→A15→A16→A17→Prop):Prop:=Wp A fun r=>Q r.1 r.2.1 r.2.2.1 r.2.2.2.1 r.2.2.2.2.1 r.2.2.2.2.2.1 r.2.2.2.2.2.2.1 r.2.2.2.2.2.2.2.1 r.2.2.2.2.2.2.2.2.1 r.2.2.2.2.2.2.2.2.2.1 r.2.2.2.2.2.2.2.2.2.2.1 r.2.2.2.2.2.2.2.2.2.2.2.1 r.2.2.2.2.2.2.2.2.2.2.2.2.1 r.2.2.2.2.2.2.2.2.2.2.2.2.2.1 r.2.2.2.2.2.2.2.2.2.2.2.2.2.2.1 r.2.2.2.2.2.2.2.2.2.2.2.2.2.2.2.1 r.2.2.2.2.2.2.2.2.2.2.2.2.2.2.2.2
variable {A14 A15 A16 A17:Type}
theorem c17 {γ:Type}{P:γ→Prop}{A:Nat→Option (A1×A2×A3×A4×A5×A6×A7×A8×A9×A10×A11×A12×A13×A14×A15×A16×A17)}{Q:A1→A2→A3→A4→A5→A6→A7→A8→A9→A10→A11→A12→A13→A14→A15→A16→A17→Prop}{k:Nat→A1→A2→A3→A4→A5→A6→A7→A8→A9→A10→A11→A12→A13→A14→A15→A16→A17→Option γ}(h:W17 A Q) (hk:∀a1 a2 a3 a4 a5 a6 a7 a8 a9 a10 a11 a12 a13 a14 a15 a16 a17,Q a1 a2 a3 a4 a5 a6 a7 a8 a9 a10 a11 a12 a13 a14 a15 a16 a17→Wp (fun n=>k n a1 a2 a3 a4 a5 a6 a7 a8 a9 a10 a11 a12 a13 a14 a15 a16 a17) P):Wp (fun n=>UK (A n) (k n)) P:=wO (B:=fun n x=>UK x (k n)) h fun _ hr=>hk _ _ _ _ _ _ _ _ _ _ _ _ _ _ _ _ _ hr
abbrev W18 {A1 A2 A3 A4 A5 A6 A7 A8 A9 A10 A11 A12 A13 A14 A15 A16 A17 A18:Type}(A:Nat→Option (A1×A2×A3×A4×A5×A6×A7×A8×A9×A10×A11×A12×A13×A14×A15×A16×A17×A18)) (Q:A1→A2→A3→A4→A5→A6→A7→A8→A9→A10→A11→A12→A13→A14→A15→A16→A17→A18→Prop):Prop:=Wp A fun r=>Q r.1 r.2.1 r.2.2.1 r.2.2.2.1 r.2.2.2.2.1 r.2.2.2.2.2.1 r.2.2.2.2.2.2.1 r.2.2.2.2.2.2.2.1 r.2.2.2.2.2.2.2.2.1 r.2.2.2.2.2.2.2.2.2.1 r.2.2.2.2.2.2.2.2.2.2.1 r.2.2.2.2.2.2.2.2.2.2.2.1 r.2.2.2.2.2.2.2.2.2.2.2.2.1 r.2.2.2.2.2.2.2.2.2.2.2.2.2.1 r.2.2.2.2.2.2.2.2.2.2.2.2.2.2.1 r.2.2.2.2.2.2.2.2.2.2.2.2.2.2.2.1 r.2.2.2.2.2.2.2.2.2.2.2.2.2.2.2.2.1 r.2.2.2.2.2.2.2.2.2.2.2.2.2.2.2.2.2
variable {A18:Type}{A:Nat→Option (A1×A2×A3×A4×A5×A6×A7×A8×A9×A10×A11×A12×A13×A14×A15×A16×A17×A18)}
theorem zZ {γ:Type}{P:γ→Prop}{Q:A1→A2→A3→A4→A5→A6→A7→A8→A9→A10→A11→A12→A13→A14→A15→A16→A17→A18→Prop}{k:Nat→A1→A2→A3→A4→A5→A6→A7→A8→A9→A10→A11→A12→A13→A14→A15→A16→A17→A18→Option γ}(h:W18 A Q) (hk:∀a1 a2 a3 a4 a5 a6 a7 a8 a9 a10 a11 a12 a13 a14 a15 a16 a17 a18,Q a1 a2 a3 a4 a5 a6 a7 a8 a9 a10 a11 a12 a13 a14 a15 a16 a17 a18→Wp (fun n=>k n a1 a2 a3 a4 a5 a6 a7 a8 a9 a10 a11 a12 a13 a14 a15 a16 a17 a18) P):Wp (fun n=>UL (A n) (k n)) P:=wO (B:=fun n x=>UL x (k n)) h fun _ hr=>hk _ _ _ _ _ _ _ _ _ _ _ _ _ _ _ _ _ _ hr
abbrev W20 {A1 A2 A3 A4 A5 A6 A7 A8 A9 A10 A11 A12 A13 A14 A15 A16 A17 A18 A19 A20:Type}(A:Nat→Option (A1×A2×A3×A4×A5×A6×A7×A8×A9×A10×A11×A12×A13×A14×A15×A16×A17×A18×A19×A20)) (Q:A1→A2→A3→A4→A5→A6→A7→A8→A9→A10→A11→A12→A13→A14→A15→A16→A17→A18→A19→A20→Prop):Prop:=Wp A fun r=>Q r.1 r.2.1 r.2.2.1 r.2.2.2.1 r.2.2.2.2.1 r.2.2.2.2.2.1 r.2.2.2.2.2.2.1 r.2.2.2.2.2.2.2.1 r.2.2.2.2.2.2.2.2.1 r.2.2.2.2.2.2.2.2.2.1 r.2.2.2.2.2.2.2.2.2.2.1 r.2.2.2.2.2.2.2.2.2.2.2.1 r.2.2.2.2.2.2.2.2.2.2.2.2.1 r.2.2.2.2.2.2.2.2.2.2.2.2.2.1 r.2.2.2.2.2.2.2.2.2.2.2.2.2.2.1 r.2.2.2.2.2.2.2.2.2.2.2.2.2.2.2.1 r.2.2.2.2.2.2.2.2.2.2.2.2.2.2.2.2.1 r.2.2.2.2.2.2.2.2.2.2.2.2.2.2.2.2.2.1 r.2.2.2.2.2.2.2.2.2.2.2.2.2.2.2.2.2.2.1 r.2.2.2.2.2.2.2.2.2.2.2.2.2.2.2.2.2.2.2
theorem c20 {A19 A20 γ:Type}{P:γ→Prop}{A:Nat→Option (A1×A2×A3×A4×A5×A6×A7×A8×A9×A10×A11×A12×A13×A14×A15×A16×A17×A18×A19×A20)}{Q:A1→A2→A3→A4→A5→A6→A7→A8→A9→A10→A11→A12→A13→A14→A15→A16→A17→A18→A19→A20→Prop}{k:Nat→A1→A2→A3→A4→A5→A6→A7→A8→A9→A10→A11→A12→A13→A14→A15→A16→A17→A18→A19→A20→Option γ}(h:W20 A Q) (hk:∀a1 a2 a3 a4 a5 a6 a7 a8 a9 a10 a11 a12 a13 a14 a15 a16 a17 a18 a19 a20,Q a1 a2 a3 a4 a5 a6 a7 a8 a9 a10 a11 a12 a13 a14 a15 a16 a17 a18 a19 a20→Wp (fun n=>k n a1 a2 a3 a4 a5 a6 a7 a8 a9 a10 a11 a12 a13 a14 a15 a16 a17 a18 a19 a20) P):Wp (fun n=>Ww (A n) (k n)) P:=wO (B:=fun n x=>Ww x (k n)) h fun _ hr=>hk _ _ _ _ _ _ _ _ _ _ _ _ _ _ _ _ _ _ _ _ hr
abbrev xH {A1 A2 A3 A4 A5 A6 A7 A8 A9 A10 A11 A12 A13 A14 A15 A16 A17 A18 A19 A20 A21 A22:Type}(A:Nat→Option (A1×A2×A3×A4×A5×A6×A7×A8×A9×A10×A11×A12×A13×A14×A15×A16×A17×A18×A19×A20×A21×A22)) (Q:A1→A2→A3→A4→A5→A6→A7→A8→A9→A10→A11→A12→A13→A14→A15→A16→A17→A18→A19→A20→A21→A22→Prop):Prop:=Wp A fun r=>Q r.1 r.2.1 r.2.2.1 r.2.2.2.1 r.2.2.2.2.1 r.2.2.2.2.2.1 r.2.2.2.2.2.2.1 r.2.2.2.2.2.2.2.1 r.2.2.2.2.2.2.2.2.1 r.2.2.2.2.2.2.2.2.2.1 r.2.2.2.2.2.2.2.2.2.2.1 r.2.2.2.2.2.2.2.2.2.2.2.1 r.2.2.2.2.2.2.2.2.2.2.2.2.1 r.2.2.2.2.2.2.2.2.2.2.2.2.2.1 r.2.2.2.2.2.2.2.2.2.2.2.2.2.2.1 r.2.2.2.2.2.2.2.2.2.2.2.2.2.2.2.1 r.2.2.2.2.2.2.2.2.2.2.2.2.2.2.2.2.1 r.2.2.2.2.2.2.2.2.2.2.2.2.2.2.2.2.2.1 r.2.2.2.2.2.2.2.2.2.2.2.2.2.2.2.2.2.2.1 r.2.2.2.2.2.2.2.2.2.2.2.2.2.2.2.2.2.2.2.1 r.2.2.2.2.2.2.2.2.2.2.2.2.2.2.2.2.2.2.2.2.1 r.2.2.2.2.2.2.2.2.2.2.2.2.2.2.2.2.2.2.2.2.2
theorem c22 {A19 A20 A21 A22 γ:Type}{P:γ→Prop}{A:Nat→Option (A1×A2×A3×A4×A5×A6×A7×A8×A9×A10×A11×A12×A13×A14×A15×A16×A17×A18×A19×A20×A21×A22)}{Q:A1→A2→A3→A4→A5→A6→A7→A8→A9→A10→A11→A12→A13→A14→A15→A16→A17→A18→A19→A20→A21→A22→Prop}{k:Nat→A1→A2→A3→A4→A5→A6→A7→A8→A9→A10→A11→A12→A13→A14→A15→A16→A17→A18→A19→A20→A21→A22→Option γ}(h:xH A Q) (hk:∀a1 a2 a3 a4 a5 a6 a7 a8 a9 a10 a11 a12 a13 a14 a15 a16 a17 a18 a19 a20 a21 a22,Q a1 a2 a3 a4 a5 a6 a7 a8 a9 a10 a11 a12 a13 a14 a15 a16 a17 a18 a19 a20 a21 a22→Wp (fun n=>k n a1 a2 a3 a4 a5 a6 a7 a8 a9 a10 a11 a12 a13 a14 a15 a16 a17 a18 a19 a20 a21 a22) P):Wp (fun n=>kC (A n) (k n)) P:=wO (B:=fun n x=>kC x (k n)) h fun _ hr=>hk _ _ _ _ _ _ _ _ _ _ _ _ _ _ _ _ _ _ _ _ _ _ hr
theorem u1 {γ:Type}{P:γ→Prop}{A:Nat→Option (A1)}{k:Nat→A1→Option γ}(h:Tl A) (hk:∀a1,Wp (fun n=>k n a1) P):Wp (fun n=>Av (A n) (k n)) P:=c1 (Q:=fun _=>True) h fun a1 _=>hk a1
theorem u2 {γ:Type}{P:γ→Prop}{A:Nat→Option (A1×A2)}{k:Nat→A1→A2→Option γ}(h:Tl A) (hk:∀a1 a2,Wp (fun n=>k n a1 a2) P):Wp (fun n=>Ir (A n) (k n)) P:=c2 (Q:=fun _ _=>True) h fun a1 a2 _=>hk a1 a2
theorem u3 {γ:Type}{P:γ→Prop}{A:Nat→Option (A1×A2×A3)}{k:Nat→A1→A2→A3→Option γ}(h:Tl A) (hk:∀a1 a2 a3,Wp (fun n=>k n a1 a2 a3) P):Wp (fun n=>EK (A n) (k n)) P:=c3 (Q:=fun _ _ _=>True) h fun a1 a2 a3 _=>hk a1 a2 a3
theorem u5 {γ:Type}{P:γ→Prop}{A:Nat→Option (A1×A2×A3×A4×A5)}{k:Nat→A1→A2→A3→A4→A5→Option γ}(h:Tl A) (hk:∀a1 a2 a3 a4 a5,Wp (fun n=>k n a1 a2 a3 a4 a5) P):Wp (fun n=>jZ (A n) (k n)) P:=c5 (Q:=fun _ _ _ _ _=>True) h fun a1 a2 a3 a4 a5 _=>hk a1 a2 a3 a4 a5
theorem u9 {γ:Type}{P:γ→Prop}{A:Nat→Option (A1×A2×A3×A4×A5×A6×A7×A8×A9)}{k:Nat→A1→A2→A3→A4→A5→A6→A7→A8→A9→Option γ}(h:Tl A) (hk:∀a1 a2 a3 a4 a5 a6 a7 a8 a9,Wp (fun n=>k n a1 a2 a3 a4 a5 a6 a7 a8 a9) P):Wp (fun n=>kB (A n) (k n)) P:=c9 (Q:=fun _ _ _ _ _ _ _ _ _=>True) h fun a1 a2 a3 a4 a5 a6 a7 a8 a9 _=>hk a1 a2 a3 a4 a5 a6 a7 a8 a9
theorem u17 {γ:Type}{P:γ→Prop}{A:Nat→Option (A1×A2×A3×A4×A5×A6×A7×A8×A9×A10×A11×A12×A13×A14×A15×A16×A17)}{k:Nat→A1→A2→A3→A4→A5→A6→A7→A8→A9→A10→A11→A12→A13→A14→A15→A16→A17→Option γ}(h:Tl A) (hk:∀a1 a2 a3 a4 a5 a6 a7 a8 a9 a10 a11 a12 a13 a14 a15 a16 a17,Wp (fun n=>k n a1 a2 a3 a4 a5 a6 a7 a8 a9 a10 a11 a12 a13 a14 a15 a16 a17) P):Wp (fun n=>UK (A n) (k n)) P:=c17 (Q:=fun _ _ _ _ _ _ _ _ _ _ _ _ _ _ _ _ _=>True) h fun a1 a2 a3 a4 a5 a6 a7 a8 a9 a10 a11 a12 a13 a14 a15 a16 a17 _=>hk a1 a2 a3 a4 a5 a6 a7 a8 a9 a10 a11 a12 a13 a14 a15 a16 a17
theorem u18 {γ:Type}{P:γ→Prop}{k:Nat→A1→A2→A3→A4→A5→A6→A7→A8→A9→A10→A11→A12→A13→A14→A15→A16→A17→A18→Option γ}(h:Tl A) (hk:∀a1 a2 a3 a4 a5 a6 a7 a8 a9 a10 a11 a12 a13 a14 a15 a16 a17 a18,Wp (fun n=>k n a1 a2 a3 a4 a5 a6 a7 a8 a9 a10 a11 a12 a13 a14 a15 a16 a17 a18) P):Wp (fun n=>UL (A n) (k n)) P:=zZ (Q:=fun _ _ _ _ _ _ _ _ _ _ _ _ _ _ _ _ _ _=>True) h fun a1 a2 a3 a4 a5 a6 a7 a8 a9 a10 a11 a12 a13 a14 a15 a16 a17 a18 _=>hk a1 a2 a3 a4 a5 a6 a7 a8 a9 a10 a11 a12 a13 a14 a15 a16 a17 a18
theorem c0 {γ:Type}{P:γ→Prop}{A:Nat→Option Unit}{Q:Unit→Prop}{k:Nat→Option γ}(h:Wp A Q) (hk:Q ()→Wp k P):Wp (fun n=>vX (A n) (k n)) P:=wO (B:=fun n x=>vX x (k n)) h fun _ hr=>hk hr
theorem AB.le {ti:Types}{e:TypeId}{L:List D}(h:AB ti e L):L.length≤9223372036854775807:=h.1
mutual
def wt:D→Nat
 | .agg cs=>AU cs+1
 | .list _ _ l=>AU l
 | .int _ _=>1
 | .bool _=>1
 | .str _=>1
 | .nil=>1
 | .box _=>1
 | .map _ _=>1
def AU:List D→Nat
 | []=>0
 | x::l=>wt x+AU l
end
theorem Bz {l:List D}{i:Nat}{x:D}(h:l[i]?=some x):AU (l.drop i)=wt x+AU (l.drop (i+1)):=by
 obtain⟨hi,rfl⟩:=List.getElem?_eq_some_iff.1 h
 rw[List.drop_eq_getElem_cons hi,AU]
theorem Ew {l:List D}{i:Nat}(h:l.length≤i):AU (l.drop i)=0:=by rw[List.drop_eq_nil_of_le h];rfl
theorem BN:∀(l:List D) (i:Nat),AU (l.drop i)≤AU l
 | [],_=>by simp
 | x::l,0=>Nat.le_refl _
 | x::l,i+1=>by have:=BN l i;simp only[List.drop_succ_cons,AU];omega
theorem Hw {Q:List D→Prop}(H:∀L,(∀M,AU M<AU L→Q M)→Q L) (L:List D):Q L:=by
 obtain⟨m,hm⟩:∃m,AU L<m:=⟨_,Nat.lt_succ_self _⟩
 induction m generalizing L with
 | zero=>omega
 | succ m ih=>grind
end
end Go.AM
set_option linter.unusedVariables false
noncomputable section
namespace Go.Proofs.YtjfmnfncmfepnaaGreatDoor
open Go Go.AM
theorem Al {Q:Nat→Prop}(N:Nat) (step:∀i,i≤N→(i<N→Q (i+1))→Q i):∀i,i≤N→Q i:=by
 intro i hi
 obtain⟨d,hd⟩:∃d,d=N - i:=⟨_,rfl⟩
 induction d generalizing i with
 | zero=>grind
 | succ d ih=>grind
section
variable {γ:Type}{P:γ→Prop}{l:List D}{i:Nat}
theorem gi {k:Nat→D→Option γ}(hi:i<l.length) (h:∀x,l[i]?=some x→Wp (fun n=>k n x) P):Wp (fun n=>An l (i:Int) (k n)) P:=wG (by omega) fun x hx=>h x (by simpa using hx)
theorem xI {k:Nat→Int→ByteArray→List D→Option γ}(hl:AB Ac 48 l) (hi:i<l.length) (h:∀(a0:Int) (a1:ByteArray) (a2:List D),l[i]?=some (.agg [.int .u8 a0,.str a1,.list true 3 a2])→AU (l.drop i)=AU a2+3+AU (l.drop (i+1))→(Lit.int .u8 a0).wf=true→a1.size≤maxLen→AB Ac 48 a2→Wp (fun n=>k n a0 a1 a2) P):Wp (fun n=>An l (i:Int) fun x=>Fx x (k n)) P:=gi hi fun x hx=>by
 obtain⟨a0,a1,a2,rfl,w0,w1,w2⟩:=wJ (hl.mem hx)
 exact h a0 a1 a2 hx (by rw[Bz hx];simp only[wt,AU];omega) w0 w1 w2
theorem Uh {k:Nat→Int→Int→ByteArray→ByteArray→ByteArray→List D→List D→Int→Option γ}(hl:AB Ac 54 l) (hi:i<l.length) (h:∀(a0:Int) (a1:Int) (a2:ByteArray) (a3:ByteArray) (a4:ByteArray) (a5:List D) (a6:List D) (a7:Int),l[i]?=some (.agg [.int .u8 a0,.int .i64 a1,.str a2,.str a3,.str a4,.list false 1 a5,.list true 8 a6,.int .i64 a7])→AU (l.drop i)=AU a5+AU a6+7+AU (l.drop (i+1))→(Lit.int .u8 a0).wf=true→(Lit.int .i64 a1).wf=true→a2.size≤maxLen→a3.size≤maxLen→a4.size≤maxLen→AB Ac 9 a5→AB Ac 54 a6→(Lit.int .i64 a7).wf=true→Wp (fun n=>k n a0 a1 a2 a3 a4 a5 a6 a7) P):Wp (fun n=>An l (i:Int) fun x=>CQ x (k n)) P:=gi hi fun x hx=>by
 obtain⟨a0,a1,a2,a3,a4,a5,a6,a7,rfl,w0,w1,w2,w3,w4,w5,w6,w7⟩:=ABb (hl.mem hx)
 exact h a0 a1 a2 a3 a4 a5 a6 a7 hx (by rw[Bz hx];simp only[wt,AU];omega) w0 w1 w2 w3 w4 w5 w6 w7
theorem XF {k:Nat→ByteArray→Int→ByteArray→List D→Option γ}(hl:AB Ac 58 l) (hi:i<l.length) (h:∀(a0:ByteArray) (a1:Int) (a2:ByteArray) (a3:List D),l[i]?=some (.agg [.str a0,.int .u8 a1,.str a2,.list true 3 a3])→AU (l.drop i)=AU a3+4+AU (l.drop (i+1))→a0.size≤maxLen→(Lit.int .u8 a1).wf=true→a2.size≤maxLen→AB Ac 48 a3→Wp (fun n=>k n a0 a1 a2 a3) P):Wp (fun n=>An l (i:Int) fun x=>Co x (k n)) P:=gi hi fun x hx=>by
 obtain⟨a0,a1,a2,a3,rfl,w0,w1,w2,w3⟩:=kD (hl.mem hx)
 exact h a0 a1 a2 a3 hx (by rw[Bz hx];simp only[wt,AU];omega) w0 w1 w2 w3
theorem kM {k:Nat→ByteArray→ByteArray→List D→Option γ}(hl:AB Ac 96 l) (hi:i<l.length) (h:∀(a0:ByteArray) (a1:ByteArray) (a2:List D),l[i]?=some (.agg [.str a0,.str a1,.list true 15 a2])→AU (l.drop i)=AU a2+3+AU (l.drop (i+1))→a0.size≤maxLen→a1.size≤maxLen→AB Ac 90 a2→Wp (fun n=>k n a0 a1 a2) P):Wp (fun n=>An l (i:Int) fun x=>EA x (k n)) P:=gi hi fun x hx=>by
 obtain⟨a0,a1,a2,rfl,w0,w1,w2⟩:=Wy (hl.mem hx)
 exact h a0 a1 a2 hx (by rw[Bz hx];simp only[wt,AU];omega) w0 w1 w2
theorem rB {k:Nat→Int→ByteArray→ByteArray→List D→Int→ByteArray→List D→Int→ByteArray→List D→List D→List D→List D→List D→Int→Option γ}(hl:AB Ac 90 l) (hi:i<l.length) (h:∀(a0:Int) (a1:ByteArray) (a2:ByteArray) (a3:List D) (a4:Int) (a5:ByteArray) (a6:List D) (a7:Int) (a8:ByteArray) (a9:List D) (a10:List D) (a11:List D) (a12:List D) (a13:List D) (a14:Int),l[i]?=some (.agg [.int .u8 a0,.str a1,.str a2,.list false 1 a3,.int .u8 a4,.str a5,.list true 3 a6,.int .i64 a7,.str a8,.list false 1 a9,.list true 8 a10,.list true 15 a11,.list true 15 a12,.list true 3 a13,.int .i64 a14])→AU (l.drop i)=AU a3+AU a6+AU a9+AU a10+AU a11+AU a12+AU a13+9+AU (l.drop (i+1))→(Lit.int .u8 a0).wf=true→a1.size≤maxLen→a2.size≤maxLen→AB Ac 9 a3→(Lit.int .u8 a4).wf=true→a5.size≤maxLen→AB Ac 48 a6→(Lit.int .i64 a7).wf=true→a8.size≤maxLen→AB Ac 9 a9→AB Ac 54 a10→AB Ac 90 a11→AB Ac 90 a12→AB Ac 96 a13→(Lit.int .i64 a14).wf=true→Wp (fun n=>k n a0 a1 a2 a3 a4 a5 a6 a7 a8 a9 a10 a11 a12 a13 a14) P):Wp (fun n=>An l (i:Int) fun x=>Cp x (k n)) P:=gi hi fun x hx=>by
 obtain⟨a0,a1,a2,a3,a4,a5,a6,a7,a8,a9,a10,a11,a12,a13,a14,rfl,w0,w1,w2,w3,w4,w5,w6,w7,w8,w9,w10,w11,w12,w13,w14⟩:=qO (hl.mem hx)
 exact h a0 a1 a2 a3 a4 a5 a6 a7 a8 a9 a10 a11 a12 a13 a14 hx (by rw[Bz hx];simp only[wt,AU];omega) w0 w1 w2 w3 w4 w5 w6 w7 w8 w9 w10 w11 w12 w13 w14
variable {k:Nat→Int→ByteArray→List D→Int→ByteArray→List D→List D→Int→Int→ByteArray→ByteArray→ByteArray→List D→List D→Int→Int→Option γ}
theorem oM (hl:AB Ac 56 l) (hi:i<l.length) (h:∀(a0:Int) (a1:ByteArray) (a2:List D) (a3:Int) (a4:ByteArray) (a5:List D) (a6:List D) (a7:Int) (a8:Int) (a9:ByteArray) (a10:ByteArray) (a11:ByteArray) (a12:List D) (a13:List D) (a14:Int) (a15:Int),l[i]?=some (.agg [.int .u8 a0,.str a1,.list true 4 a2,.int .u8 a3,.str a4,.list true 3 a5,.list true 15 a6,.int .u8 a7,.int .i64 a8,.str a9,.str a10,.str a11,.list false 1 a12,.list true 8 a13,.int .i64 a14,.int .i64 a15])→AU (l.drop i)=AU a2+AU a5+AU a6+AU a12+AU a13+12+AU (l.drop (i+1))→(Lit.int .u8 a0).wf=true→a1.size≤maxLen→AB Ac 58 a2→(Lit.int .u8 a3).wf=true→a4.size≤maxLen→AB Ac 48 a5→AB Ac 90 a6→(Lit.int .u8 a7).wf=true→(Lit.int .i64 a8).wf=true→a9.size≤maxLen→a10.size≤maxLen→a11.size≤maxLen→AB Ac 9 a12→AB Ac 54 a13→(Lit.int .i64 a14).wf=true→(Lit.int .i64 a15).wf=true→Wp (fun n=>k n a0 a1 a2 a3 a4 a5 a6 a7 a8 a9 a10 a11 a12 a13 a14 a15) P):Wp (fun n=>An l (i:Int) fun x=>Bo x (k n)) P:=gi hi fun x hx=>by
 obtain⟨a0,a1,a2,a3,a4,a5,a6,a7,a8,a9,a10,a11,a12,a13,a14,a15,rfl,w0,w1,w2,w3,w4,w5,w6,w7,w8,w9,w10,w11,w12,w13,w14,w15⟩:=kE (hl.mem hx)
 exact h a0 a1 a2 a3 a4 a5 a6 a7 a8 a9 a10 a11 a12 a13 a14 a15 hx (by rw[Bz hx];simp only[wt,AU];omega) w0 w1 w2 w3 w4 w5 w6 w7 w8 w9 w10 w11 w12 w13 w14 w15
theorem d56 {x:D}(hx:Fw Ac 56 x) (h:∀(a0:Int) (a1:ByteArray) (a2:List D) (a3:Int) (a4:ByteArray) (a5:List D) (a6:List D) (a7:Int) (a8:Int) (a9:ByteArray) (a10:ByteArray) (a11:ByteArray) (a12:List D) (a13:List D) (a14:Int) (a15:Int),x=(.agg [.int .u8 a0,.str a1,.list true 4 a2,.int .u8 a3,.str a4,.list true 3 a5,.list true 15 a6,.int .u8 a7,.int .i64 a8,.str a9,.str a10,.str a11,.list false 1 a12,.list true 8 a13,.int .i64 a14,.int .i64 a15])→(Lit.int .u8 a0).wf=true→a1.size≤maxLen→AB Ac 58 a2→(Lit.int .u8 a3).wf=true→a4.size≤maxLen→AB Ac 48 a5→AB Ac 90 a6→(Lit.int .u8 a7).wf=true→(Lit.int .i64 a8).wf=true→a9.size≤maxLen→a10.size≤maxLen→a11.size≤maxLen→AB Ac 9 a12→AB Ac 54 a13→(Lit.int .i64 a14).wf=true→(Lit.int .i64 a15).wf=true→Wp (fun n=>k n a0 a1 a2 a3 a4 a5 a6 a7 a8 a9 a10 a11 a12 a13 a14 a15) P):Wp (fun n=>Bo x (k n)) P:=by
 obtain⟨a0,a1,a2,a3,a4,a5,a6,a7,a8,a9,a10,a11,a12,a13,a14,a15,rfl,w0,w1,w2,w3,w4,w5,w6,w7,w8,w9,w10,w11,w12,w13,w14,w15⟩:=kE hx
 exact h a0 a1 a2 a3 a4 a5 a6 a7 a8 a9 a10 a11 a12 a13 a14 a15 rfl w0 w1 w2 w3 w4 w5 w6 w7 w8 w9 w10 w11 w12 w13 w14 w15
theorem gs {k:Nat→ByteArray→Option γ}(hl:AB Ac 9 l) (hi:i<l.length) (h:∀s:ByteArray,l[i]?=some (.str s)→AU (l.drop i)=1+AU (l.drop (i+1))→s.size≤maxLen→Wp (fun n=>k n s) P):Wp (fun n=>An l (i:Int) fun x=>CG x (k n)) P:=gi hi fun x hx=>by
 obtain⟨s,rfl,w⟩:=uP (hl.mem hx)
 exact h s hx (by rw[Bz hx];simp only[wt]) w
theorem dS {s:ByteArray}{k:Nat→ByteArray→Option γ}(h:Wp (fun n=>k n s) P):Wp (fun n=>CG (.str s) (k n)) P:=h
theorem dB {b:Bool}{k:Nat→Bool→Option γ}(h:Wp (fun n=>k n b) P):Wp (fun n=>Eu (rowOf true [.bool b]) (k n)) P:=h
theorem dW {b:Bool}{s:ByteArray}{k:Nat→Bool→ByteArray→Option γ}(h:Wp (fun n=>k n b s) P):Wp (fun n=>DI (.agg [.bool b,.str s]) (k n)) P:=h
theorem dZ {z:Int}{k:Nat→Int→Option γ}(h:Wp (fun n=>k n z) P):Wp (fun n=>CH (.int .i64 z) (k n)) P:=h
end
end Go.Proofs.YtjfmnfncmfepnaaGreatDoor
end
namespace Go.AM
open Go Go.RowKit
def ABh:CV→List Id
 | .ptr i _=>[i]
 | .fn _ cap=>cap
 | .lst i _ _ _=>[i]
 | .sl i _=>[i]
 | .map i=>[i]
 | .ap i _ _ _ _=>[i]
 | .ow i=>[i]
 | .op i _ _ _=>[i]
 | .yl i=>[i]
 | .bm _ i=>[i]
 | .fb i=>[i]
 | _=>[]
def rC:List Id→Nat→Id→Option Nat
 | [],_,_=>none
 | j::l,n,i=>match Id.beq j i with
  | true=>some n
  | false=>rC l (n+1) i
def Y7 (m:List Id) (i:Id):Id:=match rC m 0 i with
 | some j=>.ext j
 | none=>i
def Dq (h:Heap):List Id→Option (List AD)
 | []=>some []
 | i::l=>match h i with
  | some o=>(match Dq h l with
   | some r=>some (o::r)
   | none=>none)
  | none=>none
theorem MJ {h:Heap}:∀{l:List Id}{r:List AD},Dq h l=some r→l.length=r.length∧∀(j:Nat) i o,l[j]?=some i→r[j]?=some o→h i=some o
 | [],r,e=>by cases e;simp_all
 | i::l,r,e=>by
  unfold Dq at e
  split at e
  ·rename_i o ho
   split at e
   ·rename_i r' hr
    cases e
    obtain⟨h1,h2⟩:=MJ hr
    grind
   ·cases e
  ·cases e
section
variable {γ:Type}{r:γ}
def Vo (m:List Id) (fresh:Nat) (i:Id):Bool:=Id.beq (BF m fresh (Y7 m i)) i
theorem Sb {m:List Id}{fresh:Nat}{i:Id}(h:Vo m fresh i=true):BF m fresh (Y7 m i)=i:=Id.beq_iff.1 h
theorem AG {c:Bool}{x:Option γ}(h:BB c x=some r):c=true∧x=some r:=by
 cases c
 ·cases h
 ·exact⟨rfl,h⟩
theorem Y8 {l:List Id}(h:nodupB l=true):l.Nodup:=by
 induction l with
 | nil=>exact List.nodup_nil
 | cons i l ih=>
  unfold nodupB at h
  split at h
  ·cases h
  ·rename_i hi
   refine List.nodup_cons.2 ⟨fun hm=>?_,ih h⟩
   rw[GR.2 hm]at hi
   cases hi
def Vp:List Id→List Id→Bool
 | [],[]=>true
 | i::a,j::b=>(match Id.beq i j with
  | true=>Vp a b
  | false=>false)
 | _,_=>false
theorem Sc:∀{a b:List Id},Vp a b=true→a=b
 | [],[],_=>rfl
 | i::a,j::b,h=>by
  unfold Vp at h
  split at h
  ·rename_i hb;rw[Id.beq_iff.1 hb,Sc h]
  ·cases h
 | [],_::_,h=>by cases h
 | _::_,[],h=>by cases h
def kN:CV→CV→Bool
 | .ptr i o,.ptr j q=>(match Id.beq i j with
  | true=>Nat.beq o q
  | false=>false)
 | .fn f c,.fn g d=>(match Nat.beq f g with
  | true=>Vp c d
  | false=>false)
 | .nilp,.nilp=>true
 | .nilf,.nilf=>true
 | _,_=>false
theorem Vq {a b:CV}(h:kN a b=true):a=b:=by
 unfold kN at h
 split at h
 ·split at h
  ·rename_i hb;rw[Id.beq_iff.1 hb,Nat.eq_of_beq_eq_true h]
  ·cases h
 ·split at h
  ·rename_i hb;rw[Nat.eq_of_beq_eq_true hb,Sc h]
  ·cases h
 ·rfl
 ·rfl
 ·cases h
def Sd:List CV→List CV→Bool
 | [],[]=>true
 | i::a,j::b=>(match kN i j with
  | true=>Sd a b
  | false=>false)
 | _,_=>false
theorem Sf:∀{a b:List CV},Sd a b=true→a=b
 | [],[],_=>rfl
 | i::a,j::b,h=>by
  unfold Sd at h
  split at h
  ·rename_i hb;rw[Vq hb,Sf h]
  ·cases h
 | [],_::_,h=>by cases h
 | _::_,[],h=>by cases h
def Gj (h:Heap):List Id→List Id
 | []=>[]
 | i::l=>(match h i with
  | some (.cells cs)=>(match Sd cs cs with
   | true=>i::Gj h l
   | false=>Gj h l)
  | _=>Gj h l)
def P2 (ti:Types) (s:AL) (e:TypeId) (ag:Bool) (sz:Nat):Nat→List (Nat×Operand)→(List D→Option γ)→Option γ
 | _,[],k=>k []
 | n,(i,x)::l,k=>BB (Nat.beq i n)<| (match AX ti s e x with
  | .v y=>(match y.norm with
   | .d d=>BB (d.isAgg==ag)<| BB (Nat.beq d.cells.length sz)<| P2 ti s e ag sz (n+1) l fun ds=>k (d::ds)
   | _=>none)
  | _=>none)
theorem Oj {ti:Types}{s:AL}{e:TypeId}{ag:Bool}{sz:Nat}:∀{l:List (Nat×Operand)}{n:Nat}{k:List D→Option γ}{A:List D→Prop},(∀w,k w=some r→A w)→P2 ti s e ag sz n l k=some r→N5 ti s e ag sz n l A
 | [],_,_,_,hk,h=>hk _ h
 | (i,x)::l,n,k,A,hk,h=>by
  unfold P2 at h
  unfold N5
  refine AN (fun h=>?_) h
  split at h
  ·rename_i hy
   simp only[hy]
   split at h
   ·rename_i hd
    simp only[hd]
    exact AN (AN fun h=>Oj (fun w hw=>hk _ hw) h) h
   ·cases h
  ·cases h
def Fz (ti:Types) (s:AL) (t:TypeId) (len:Nat) (parts:List (Nat×Operand)) (k:Out→Option γ):Option γ:=
 Ca ti t fun q=>match q.desc with
 | .slice e=>Ca ti e fun j=>BB (Nat.ble (len*j.size) 16777216)<| BB (Nat.beq parts.length len)<| BB (Nat.blt 0 j.size)<| P2 ti s e (AR j.desc) j.size 0 parts fun ds=>
   k ⟨.v (.c (.tl (AR j.desc) j.size ds)),[],[]⟩
 | _=>none
theorem Ke {ti:Types}{s:AL}{t:TypeId}{len:Nat}{parts:List (Nat×Operand)}{k:Out→Option γ}{A:Out→Prop}(hk:∀o,k o=some r→A o) (h:Fz ti s t len parts k=some r):C8 ti s t len parts A:=by
 unfold Fz at h
 unfold C8
 refine Ab (fun q h=>?_) h
 split at h
 ·rename_i hq
  simp only[hq]
  exact Ab (fun j h=>AN (AN (AN fun h=>Oj (fun w hw=>hk _ hw) h)) h) h
 ·cases h
theorem E5 {b:Bool}(h:C6 b=true):b=false:=by cases b;rfl;cases h
def P3 (o:Oper):Bool:=
 match o.op with
 | .store ..=>o.dst.isNone
 | .mapUpdate ..=>o.dst.isNone
 | .insert ..=>o.dst.isNone
 | .defer _=>false
 | _=>true
theorem Ol {o:Oper}{K:Prop}(h:P3 o=true) (hk:K):Ep o K:=by
 unfold P3 at h
 unfold Ep
 split at h<;>rename_i ho<;>try simp only[ho]
 ·simp_all
 ·simp_all
 ·simp_all
 ·cases h
 ·exact hk
def Y9 (nt:Nat) (d:Option Tmp):Bool:=
 match d with
 | none=>true
 | some d=>Nat.blt d nt
theorem K5 {nt:Nat}{d:Option Tmp}{K:Prop}(h:Y9 nt d=true) (hk:K):GD nt d K:=by
 cases d with
 | none=>exact hk
 | some d=>exact AA.2 ⟨h,hk⟩
def Sg:List (Nat×AV)→Nat→AV→List (Nat×AV)
 | [],_,_=>[]
 | x::l,t,v=>(match Nat.beq x.1 t with
  | true=>(x.1,v)::l
  | false=>x::Sg l t v)
theorem P4:∀{l:List (Nat×AV)}{t:Nat}{v:AV},AQ l t=v→Sg l t v=l
 | [],_,_,_=>rfl
 | (k,v0)::l,t,v,h=>by
  unfold AQ at h
  unfold Sg
  split at h
  ·simp_all
  ·rename_i hb;simp only[hb,P4 h]
end
end Go.AM
namespace Go.AM
open Go Go.RowKit
inductive Pl where
 | e
 | n (k:Nat) (r:Pl)
 | g (gs:List Gh) (l:List (Nat×Nat)) (r:Pl)
 | w (r:Pl)
 | b (p q:Pl)
 | o (i:Id) (t ty:Nat) (r:Pl)
def Pl.at:Pl→Bool→Pl
 | .b p q,true=>p
 | .b p q,false=>q
 | x,_=>x
def Pl.nth (p:Pl) (m:Nat):Pl:=
 match m with
 | 0=>p.at true
 | m+1=>(p.at false).nth m
structure Tk where
 gs:List Gh
 l:List (Nat×Nat)
 w:Bool
 r:Pl
def Pl.take:Pl→Tk
 | .n k r=>(match k with
  | 0=>⟨[],[],false,r⟩
  | k+1=>⟨[],[],false,.n k r⟩)
 | .g gs l r=>⟨gs,l,false,r⟩
 | .w r=>⟨[],[],true,r⟩
 | x=>⟨[],[],false,x⟩
section
variable {γ:Type}{r:γ}
def gd (a b:Nat) (x:Option γ):Option γ:=if a=b then x else none
theorem kO {a:Nat}{x:Option γ}:gd a a x=x:=by unfold gd;rw[if_pos rfl]
theorem ZA {a b:Nat}{x:Option γ}(h:gd a b x=some r):a=b∧x=some r:=by
 unfold gd at h
 simp_all
def Ui (op:BinOp) (q:IntKind) (a b:Int) (pl:Pl) (k:Pl→D→Option γ):Option γ:=
 match op with
 | .add=>AW (q.wrap (a+b)) fun z=>k pl (.int q z)
 | .sub=>AW (q.wrap (a - b)) fun z=>k pl (.int q z)
 | .mul=>AW (q.wrap (a*b)) fun z=>k pl (.int q z)
 | .eql=>if a=b then k (pl.at true) (.bool true)else k (pl.at false) (.bool false)
 | .neq=>if a=b then k (pl.at true) (.bool false)else k (pl.at false) (.bool true)
 | .lss=>if a<b then k (pl.at true) (.bool true)else k (pl.at false) (.bool false)
 | .leq=>if a≤b then k (pl.at true) (.bool true)else k (pl.at false) (.bool false)
 | .gtr=>if b<a then k (pl.at true) (.bool true)else k (pl.at false) (.bool false)
 | .geq=>if b≤a then k (pl.at true) (.bool true)else k (pl.at false) (.bool false)
 | .quo=>Bs (b≠0) (AW (q.wrap (Int.tdiv a b)) fun z=>k pl (.int q z))
 | .rem=>Bs (b≠0) (AW (Int.tmod a b) fun z=>k pl (.int q z))
 | _=>none
section
variable {M:Au}{op:BinOp}{pl:Pl}{k:Pl→D→Option γ}{P:D→Prop}
theorem XG {q:IntKind}{a b:Int}(hk:∀p d,k p d=some r→P d) (h:Ui op q a b pl k=some r):IL M op q a b P:=by
 cases op<;>simp only[Ui]at h<;>try contradiction
 ·exact⟨_,rfl,hk _ _ h⟩
 ·exact⟨_,rfl,hk _ _ h⟩
 ·exact⟨_,rfl,hk _ _ h⟩
 ·obtain⟨h1,h2⟩:=Bp h
  exact⟨_,h1,rfl,hk _ _ h2⟩
 ·obtain⟨h1,h2⟩:=Bp h
  exact⟨_,h1,rfl,hk _ _ h2⟩
 ·simp only[IL,M.split_iff,M.eqI_eq]
  grind
 ·simp only[IL,M.split_iff,M.eqI_eq]
  by_cases c:a=b
  ·rw[if_pos c]at h;rw[beq_iff_eq.2 c];exact hk _ _ h
  ·rw[if_neg c]at h;rw[beq_eq_false_iff_ne.2 c];exact hk _ _ h
 ·simp only[IL,M.split_iff,M.ltI_eq]
  grind
 ·simp only[IL,M.split_iff,M.leI_eq]
  grind
 ·simp only[IL,M.split_iff,M.ltI_eq]
  grind
 ·simp only[IL,M.split_iff,M.leI_eq]
  grind
def Uj (s t:ByteArray) (k:ByteArray→Option γ):Option γ:=match Nat.ble (s.size+t.size) 9223372036854775807 with
 | true=>k (s++t)
 | false=>none
theorem ZB {s t:ByteArray}{k:ByteArray→Option γ}(h:Uj s t k=some r):∃out,s++t=out∧((s.size+t.size:Nat):Int)≤IntKind.i64.max∧k out=some r:=by
 unfold Uj at h
 split at h
 ·rename_i hb
  have:=Nat.le_of_ble_eq_true hb
  exact⟨_,rfl,by have:IntKind.i64.max=9223372036854775807:=rfl;omega,h⟩
 ·cases h
def Uk (op:BinOp) (a b:ByteArray) (pl:Pl) (k:Pl→D→Option γ):Option γ:=
 match op with
 | .add=>Uj a b fun c=>k pl (.str c)
 | .eql=>if a=b then k (pl.at true) (.bool true)else k (pl.at false) (.bool false)
 | .neq=>if a=b then k (pl.at true) (.bool false)else k (pl.at false) (.bool true)
 | _=>none
theorem XH {a b:ByteArray}(hk:∀p d,k p d=some r→P d) (h:Uk op a b pl k=some r):RA M op a b P:=by
 cases op<;>simp only[Uk]at h<;>try contradiction
 ·obtain⟨c,h1,h2,h3⟩:=ZB h
  exact⟨c,h1,h2,hk _ _ h3⟩
 ·simp only[RA,M.split_iff,M.eqS_eq]
  by_cases c:a=b
  ·grind
  ·rw[if_neg c]at h;rw[Bool.eq_false_iff.2 fun e=>c (L6.1 e)];exact hk _ _ h
 ·simp only[RA,M.split_iff,M.eqS_eq]
  by_cases c:a=b
  ·rw[if_pos c]at h;rw[L6.2 c];exact hk _ _ h
  ·rw[if_neg c]at h;rw[Bool.eq_false_iff.2 fun e=>c (L6.1 e)];exact hk _ _ h
def Sh (op:BinOp) (b:Bool) (k:D→Option γ):Option γ:=
 match op with
 | .eql=>k (.bool b)
 | .neq=>k (.bool (C6 b))
 | _=>none
theorem MK {b:Bool}{k:D→Option γ}(hk:∀d,k d=some r→P d) (h:Sh op b k=some r):GA op b P:=by
 unfold Sh at h
 unfold GA
 grind
def Ul (ti:Types) (op:BinOp) (t:TypeId) (x y:AV) (pl:Pl) (k:Pl→Out→Option γ):Option γ:=
 match x,y with
 | .v (.d (.int q a)),.v (.d (.int q' b))=>BB (decide (q=q')) (Ui op q a b pl fun p d=>k p ⟨.v (.d d),[],[]⟩)
 | .v (.d (.str a)),.v (.d (.str b))=>Uk op a b pl fun p d=>k p ⟨.v (.d d),[],[]⟩
 | .v (.d (.bool a)),.v (.d (.bool b))=>Ca ti t fun i=>(match i.desc with
  | .bool=>(match op with
   | .eql=>Aw (a==b) fun q=>k pl ⟨.v (.d (.bool q)),[],[]⟩
   | .neq=>Aw (!(a==b)) fun q=>k pl ⟨.v (.d (.bool q)),[],[]⟩
   | _=>none)
  | _=>none)
 | .v (.c (.ptr _ _)),.v (.c .nilp)=>Ca ti t fun i=>(match i.desc with
  | .pointer _=>Sh op false fun d=>k pl ⟨.v (.d d),[],[]⟩
  | _=>none)
 | .v (.c .nilp),.v (.c .nilp)=>Ca ti t fun i=>(match i.desc with
  | .pointer _=>Sh op true fun d=>k pl ⟨.v (.d d),[],[]⟩
  | _=>none)
 | .v (.c (.kv u)),.v (.c (.kv v))=>Ca ti t fun i=>(match i.desc with
  | .interface ms=>BB ms.isEmpty (match LH u v with
   | some q=>Sh op q fun d=>k pl ⟨.v (.d d),[],[]⟩
   | none=>none)
  | _=>none)
 | _,_=>none
theorem XI {ti:Types}{t:TypeId}{x y:AV}{k:Pl→Out→Option γ}{P:Out→Prop}(hk:∀p o,k p o=some r→P o) (e:Ul ti op t x y pl k=some r):PM M ti op t x y P:=by
 unfold Ul at e
 split at e
 ·exact AN (fun e=>XG (fun p d h=>hk _ _ h) e) e
 ·exact XH (fun p d h=>hk _ _ h) e
 ·refine Ab (fun i e=>?_) e
  split at e
  ·rename_i hi
   simp only[hi]
   split at e
   ·exact⟨_,Kn _ _,hk _ _ e⟩
   ·exact⟨_,by rw[EG,Kn],hk _ _ e⟩
   ·cases e
  ·cases e
 ·refine Ab (fun i e=>?_) e
  split at e
  ·rename_i hi;simp only[hi];exact MK (fun d h=>hk _ _ h) e
  ·cases e
 ·refine Ab (fun i e=>?_) e
  split at e
  ·rename_i hi;simp only[hi];exact MK (fun d h=>hk _ _ h) e
  ·cases e
 ·refine Ab (fun i e=>?_) e
  split at e
  ·rename_i hi
   simp only[hi]
   refine AN (fun e=>?_) e
   split at e
   ·rename_i hq;simp only[hq];exact MK (fun d h=>hk _ _ h) e
   ·cases e
  ·cases e
 ·cases e
end
end
end Go.AM
namespace Go.AM
open Go Go.RowKit
section
variable {γ:Type}{r:γ}
def FX (f:CV→(D→List Id→Option γ)→Option γ):List CV→(List D→List Id→Option γ)→Option γ
 | [],K=>K [] []
 | c::l,K=>f c fun d is=>FX f l fun ds js=>K (d::ds) (is++js)
def CI (h:Heap):Nat→CV→(D→List Id→Option γ)→Option γ
 | 0,_,_=>none
 | n+1,c,K=>match c with
  | .d d=>(match D0 d with
   | true=>none
   | false=>K d [])
  | .nilp=>K .nil []
  | .nils ag sz=>(match Nat.blt 0 sz with
   | true=>K (.list ag sz []) []
   | false=>none)
  | .ow j=>(match h j with
   | some (.tree k ag sz rows none)=>(match IK k ag sz rows with
    | some x=>K x [j]
    | none=>none)
   | _=>none)
  | .ptr j o=>(match o with
   | 0=>(match h j with
    | some (.cells (c::cs))=>FX (CI h n) (c::cs) fun ds is=>K (.box ds) (j::is)
    | _=>none)
   | _=>none)
  | _=>none
theorem Gk {f:CV→(D→List Id→Option γ)→Option γ}{g:CV→(D→List Id→Prop)→Prop}(hf:∀c (K:D→List Id→Option γ) (P:D→List Id→Prop),(∀d is,K d is=some r→P d is)→f c K=some r→g c P):
  ∀{l:List CV} {K:List D→List Id→Option γ} {P:List D→List Id→Prop},(∀d is,K d is=some r→P d is)→FX f l K=some r→LK g l P
 | [],_,_,hk,e=>hk _ _ e
 | c::l,_,_,hk,e=>hf c _ _ (fun _ _ e=>Gk hf (fun _ _ e=>hk _ _ e) e) e
theorem KQ {h:Heap}:∀{n:Nat}(c:CV) (K:D→List Id→Option γ) (P:D→List Id→Prop),(∀d is,K d is=some r→P d is)→CI h n c K=some r→Fk h n c P
 | 0,_,_,_,_,e=>by cases e
 | n+1,c,K,P,hk,e=>by
  unfold CI at e
  unfold Fk
  split at e
  ·grind
  ·exact hk _ _ e
  ·grind
  ·grind
  ·split at e
   ·split at e
    ·rename_i hj
     simp only[hj]
     exact Gk (fun c K P hk e=>KQ c K P hk e) (fun _ _ e=>hk _ _ e) e
    ·cases e
   ·cases e
  ·cases e
def Iw (h:Heap) (cs:List CV) (K:List D→List Id→Option γ):Option γ:=FX (CI h 3) cs K
section
variable {h:Heap}
theorem Gl {cs:List CV}{K:List D→List Id→Option γ}{P:List D→List Id→Prop}(hk:∀d is,K d is=some r→P d is) (e:Iw h cs K=some r):LL h cs P:=Gk (fun c K P hk e=>KQ c K P hk e) hk e
def Dc (h:Heap):List Id→(Heap→List Id→List (Id×AD)→Option γ)→Option γ
 | [],K=>K h [] []
 | i::l,K=>match h i with
  | some (.tree kd ag sz rows (some (k,cs)))=>BB (Km kd)<| Iw h cs fun ds is=>BB (nodupB is)<| BB (ag || Nat.beq ds.length 1)<|
    SE rows k (rowOf ag ds) fun rows'=>Dc (Ay (AK h i (.tree kd ag sz rows' none)) (Ah is)) l fun h' rd wr=>K h' (i::(is++rd)) ((i,.tree kd ag sz rows' none)::(Ah is++wr))
  | _=>none
theorem Gm:∀{l:List Id}{h:Heap}{K:Heap→List Id→List (Id×AD)→Option γ}{P:Heap→List Id→List (Id×AD)→Prop},(∀h rd wr,K h rd wr=some r→P h rd wr)→Dc h l K=some r→Fl h l P
 | [],_,_,_,hk,e=>hk _ _ _ e
 | i::l,h,K,P,hk,e=>by
  unfold Dc at e
  unfold Fl
  split at e
  ·rename_i hi
   simp only[hi]
   obtain⟨h1,e⟩:=AG e
   refine AA.2 ⟨h1,Gl (fun ds is e=>?_) e⟩
   obtain⟨h2,e⟩:=AG e
   obtain⟨h3,e⟩:=AG e
   obtain⟨rows',h4,e⟩:=SF e
   rw[h2,h3]
   exact⟨rows',h4,Gm (fun h' rd wr e=>hk _ _ _ e) e⟩
  ·cases e
def Vr (f:Id→List Id):List CV→List Id
 | []=>[]
 | c::l=>(match c with
  | .ow j=>f j++Vr f l
  | _=>Vr f l)
def K6 (h:Heap):Nat→Id→List Id
 | 0,_=>[]
 | n+1,i=>match h i with
  | some (.tree _ _ _ _ foc)=>(match foc with
   | some x=>Vr (K6 h n) x.2++[i]
   | none=>[])
  | _=>[]
def Ix (h:Heap) (gs:List Id) (E:Heap→(Out→Option γ)→Option γ) (k:Out→Option γ):Option γ:=Dc h gs fun h' rd wr=>E h' fun out=>k ⟨out.val,rd++out.rd,wr++out.wr⟩
variable {P:Out→Prop}{k:Out→Option γ}
theorem Gn {gs:List Id}{E:Heap→(Out→Option γ)→Option γ}{F:Heap→(Out→Prop)→Prop}(hk:∀o,k o=some r→P o)
  (hE:∀h' (k:Out→Option γ) (P:Out→Prop),(∀o,k o=some r→P o)→E h' k=some r→F h' P) (e:Ix h gs E k=some r):Hc h F P:=
 ⟨gs,Gm (fun h' rd wr e=>hE h' _ _ (fun o e=>hk _ e) e) e⟩
def xJ (x:AV) (h:Heap) (K:Id→Kd→Bool→Nat→List D→Option (Nat×List CV)→Nat→Nat→Option γ):Option γ:=
 match x with
 | .v (.c (.op id sz kk o))=>(match h id with
  | some (.tree kd ag sz' rows foc)=>BB (Nat.beq sz' sz) (BB (PT kd) (K id kd ag sz' rows foc kk o))
  | _=>none)
 | .v (.c (.ow id))=>(match h id with
  | some (.tree kd ag sz rows foc)=>(match kd with
   | .box=>K id .box ag sz rows foc 0 0
   | _=>none)
  | _=>none)
 | _=>none
variable {x:AV}
theorem Um {K:Id→Kd→Bool→Nat→List D→Option (Nat×List CV)→Nat→Nat→Option γ}{P:Id→Kd→Bool→Nat→List D→Option (Nat×List CV)→Nat→Nat→Prop}
  (hk:∀a b c d e f g i,K a b c d e f g i=some r→P a b c d e f g i) (e:xJ x h K=some r):LN x h P:=by
 unfold xJ at e
 unfold LN
 split at e
 ·split at e
  ·rename_i hi
   simp only[hi]
   exact AN (AN (hk _ _ _ _ _ _ _ _)) e
  ·cases e
 ·grind
 ·cases e
abbrev oO:=Bool→Nat→TypeId→Nat→TypeId
def P5 (ds:Ds γ) (el:oO) (ti:Types) (t:TypeId) (x:AV) (fresh:Nat) (h:Heap) (pl:Pl) (k:Pl→Out→Option γ):Option γ:=
 Ca ti t fun i=>xJ x h fun id kd ag sz rows foc kk o=>match foc with
 | some (k',cs)=>gd k' kk<| BB (Nat.ble (o+i.size) cs.length) (k pl ⟨.v (V1.Aa (AR i.desc) ((cs.drop o).take i.size)),[id],[]⟩)
 | none=>EJ rows kk fun d=>ds (el ag sz t o) d fun d=>BB (Nat.ble (o+i.size) d.cells.length)<| (match BZ PU ((d.cells.drop o).take i.size)with
  | true=>k pl ⟨.v (V1.Aa (AR i.desc) (((d.cells.drop o).take i.size).map CV.d)),[id],[]⟩
  | false=>BB (Nat.ble d.cells.length 32) (k pl ⟨.v (V1.Aa (AR i.desc) (((CK fresh 0 d.cells).drop o).take i.size)),[id],(id,.tree kd ag sz rows (some (kk,CK fresh 0 d.cells)))::CA fresh 0 d.cells⟩))
variable {ds:Ds γ}{el:oO}{ti:Types}{t:TypeId}{fresh:Nat}{pl:Pl}
theorem Un (hd:ds.ok) {k:Pl→Out→Option γ}(hk:∀p o,k p o=some r→P o) (e:P5 ds el ti t x fresh h pl k=some r):loadT ti t x fresh h P:=by
 unfold P5 at e
 unfold loadT
 refine Ab (fun i e=>Um (fun id kd ag sz rows foc kk o e=>?_) e) e
 split at e
 ·obtain⟨h1,e⟩:=ZA e
  exact⟨h1,AN (hk _ _) e⟩
 ·obtain⟨d,h1,e⟩:=Ed e
  replace e:=hd _ _ _ _ e
  refine⟨d,h1,AN (fun e=>?_) e⟩
  split at e
  ·rename_i h2
   exact⟨true,AA.2 ⟨h2,hk _ _ e⟩⟩
  ·exact⟨false,AN (hk _ _) e⟩
def ML (ds:Ds γ) (el:oO) (ti:Types) (t:TypeId) (x y:AV) (fresh:Nat) (h:Heap) (pl:Pl) (k:Pl→Out→Option γ):Option γ:=
 Ca ti t fun i=>match y with
 | .v y=>BB (Nat.beq y.cells.length i.size)<| xJ x h fun id kd ag sz rows foc kk o=>(match foc with
  | some (k',cs)=>gd k' kk<| BB (Nat.ble (o+i.size) cs.length) (k pl ⟨.u,[id],[(id,.tree kd ag sz rows (some (kk,cs.take o++y.cells++cs.drop (o+i.size))))]⟩)
  | none=>EJ rows kk fun d=>ds (el ag sz t o) d fun d=>BB (Nat.ble (o+i.size) d.cells.length)<| BB (Nat.ble d.cells.length 32)
    (k pl ⟨.u,[id],(id,.tree kd ag sz rows (some (kk,(CK fresh 0 d.cells).take o++y.cells++(CK fresh 0 d.cells).drop (o+i.size))))::CA fresh 0 d.cells⟩))
 | _=>none
variable {y:AV}
theorem Si (hd:ds.ok) {k:Pl→Out→Option γ}(hk:∀p o,k p o=some r→P o) (e:ML ds el ti t x y fresh h pl k=some r):storeT ti t x y fresh h P:=by
 unfold ML at e
 unfold storeT
 refine Ab (fun i e=>?_) e
 split at e
 ·simp only[DL]
  refine AN (fun e=>Um (fun id kd ag sz rows foc kk o e=>?_) e) e
  split at e
  ·obtain⟨h1,e⟩:=ZA e
   exact⟨h1,AN (hk _ _) e⟩
  ·obtain⟨d,h1,e⟩:=Ed e
   replace e:=hd _ _ _ _ e
   exact⟨d,h1,AN (AN (hk _ _)) e⟩
 ·cases e
def MM (ti:Types) (t:TypeId) (x:AV) (f:Nat) (h:Heap) (k:Out→Option γ):Option γ:=
 Ca ti t fun i=>match i.desc with
 | .struct fs=>(match fs[f]? with
  | some fd=>Ca ti fd.type fun j=>BB (Nat.blt 0 j.size)<| xJ x h fun id _ _ sz _ _ kk o=>k ⟨.v (.c (.op id sz kk (o+fd.offset))),[id],[]⟩
  | none=>none)
 | _=>none
theorem Sk {f:Nat}(hk:∀o,k o=some r→P o) (e:MM ti t x f h k=some r):FM ti t x f h P:=by
 unfold MM at e
 unfold FM
 refine Ab (fun i e=>?_) e
 split at e
 ·rename_i hf
  split at e
  ·rename_i hfd
   simp only[hf,hfd]
   exact Ab (fun j e=>AN (fun e=>Um (fun _ _ _ _ _ _ _ _ e=>hk _ e) e) e) e
  ·cases e
 ·cases e
def MN (ti:Types) (t:TypeId) (x i:AV) (h:Heap) (k:Out→Option γ):Option γ:=
 Nb i fun n=>Ca ti t fun q=>match q.desc with
 | .slice e=>Ca ti e fun j=>(match x with
  | .v (.c (.ow id))=>(match h id with
   | some (.tree kd _ sz rows _)=>(match kd with
    | .row=>BB (Nat.beq sz j.size)<| Bs (0≤n∧n.toNat<rows.length) (k ⟨.v (.c (.op id sz n.toNat 0)),[id],[]⟩)
    | _=>none)
   | _=>none)
  | _=>none)
 | _=>none
variable {M:Au}
theorem Sl {i:AV}(hk:∀o,k o=some r→P o) (e:MN ti t x i h k=some r):FO M ti t x i h P:=by
 unfold MN at e
 unfold FO
 refine Fy (fun _ n e=>Ab (fun q e=>?_) e) e
 split at e
 ·rename_i hq
  simp only[hq]
  refine Ab (fun j e=>?_) e
  split at e
  ·split at e
   ·rename_i hi
    split at e
    ·simp only[hi]
     refine AN (fun e=>?_) e
     obtain⟨h1,e⟩:=Bp e
     exact⟨(M.lock_iff _).2 h1,hk _ e⟩
    ·cases e
   ·cases e
  ·cases e
 ·cases e
def Uo (ti:Types) (t:TypeId) (x:AV) (h:Heap) (k:Out→Option γ):Option γ:=
 Ca ti t fun q=>match x with
 | .v (.c (.ow id))=>(match h id with
  | some (.tree kd _ _ rows _)=>(match kd with
   | .row=>(match q.desc with
    | .slice _=>AP rows fun z=>k ⟨.v (.d (.int .i64 z)),[id],[]⟩
    | _=>none)
   | _=>none)
  | _=>none)
 | _=>none
theorem XJ (hk:∀o,k o=some r→P o) (e:Uo ti t x h k=some r):IP M ti t x h P:=by
 unfold Uo at e
 unfold IP
 refine Ab (fun q e=>?_) e
 split at e
 ·split at e
  ·rename_i hi
   split at e
   ·split at e
    ·rename_i hq;simp only[hi,hq];exact (Ge M e).imp fun z h=>⟨h.1,hk _ h.2⟩
    ·cases e
   ·cases e
  ·cases e
 ·cases e
def Up (x:AV) (h:Heap) (ag:Bool) (sz:Nat) (K:List Id→List D→Option γ):Option γ:=
 match x with
 | .v (.c (.nils _ _))=>K [] []
 | .v (.c (.ow i))=>(match h i with
  | some (.tree kd ag' sz' rows foc)=>(match kd with
   | .row=>(match foc with
    | none=>BB (ag'==ag) (BB (Nat.beq sz' sz) (K [i] rows))
    | some _=>none)
   | _=>none)
  | _=>none)
 | _=>none
variable {K:List Id→List D→Option γ}{ag:Bool}{sz:Nat}
theorem XK {P:List Id→List D→Prop}(hk:∀a b,K a b=some r→P a b) (e:Up x h ag sz K=some r):X6 x h ag sz P:=by
 unfold Up at e
 unfold X6
 split at e
 ·exact hk _ _ e
 ·split at e
  ·rename_i hi
   split at e
   ·split at e
    ·simp only[hi];exact AN (AN (hk _ _)) e
    ·cases e
   ·cases e
  ·cases e
 ·cases e
def Uq (y:AV) (h:Heap) (ag:Bool) (sz:Nat) (K:List Id→List D→Option γ):Option γ:=
 match y with
 | .v (.c (.sl jj n))=>(match h jj with
  | some (.cells cs)=>BB (Nat.beq cs.length (n*sz)) (Iw h cs fun ds is=>K is (rowsOf ag sz n ds))
  | _=>none)
 | .v (.c (.ow i))=>(match h i with
  | some (.tree kd ag' sz' rows foc)=>(match kd with
   | .row=>(match foc with
    | none=>BB (ag'==ag) (BB (Nat.beq sz' sz) (K [i] rows))
    | some _=>none)
   | _=>none)
  | _=>none)
 | .v (.d (.list ag' sz' ys))=>BB (ag'==ag) (BB (Nat.beq sz' sz) (Bs (Iq ys=true) (K [] ys)))
 | .v (.c (.tl ag' sz' ys))=>BB (ag'==ag) (BB (Nat.beq sz' sz) (Bs (Iq ys=true) (K [] ys)))
 | .v (.c (.nils ag' sz'))=>BB (ag'==ag) (BB (Nat.beq sz' sz) (Bs (Iq []=true) (K [] [])))
 | _=>none
theorem XL {P:List Id→List D→Prop}(hk:∀a b,K a b=some r→P a b) (e:Uq y h ag sz K=some r):X7 y h ag sz P:=by
 unfold Uq at e
 unfold X7
 split at e
 ·split at e
  ·rename_i hi
   simp only[hi]
   exact AN (fun e=>Gl (fun ds is e=>⟨_,rfl,hk _ _ e⟩) e) e
  ·cases e
 ·split at e
  ·rename_i hi
   split at e
   ·split at e
    ·simp only[hi];exact AN (AN (hk _ _)) e
    ·cases e
   ·cases e
  ·cases e
 ·exact AN (AN fun e=>⟨JZ.1 (Bp e).1,hk _ _ (Bp e).2⟩) e
 ·exact AN (AN fun e=>⟨JZ.1 (Bp e).1,hk _ _ (Bp e).2⟩) e
 ·exact AN (AN fun e=>⟨JZ.1 (Bp e).1,hk _ _ (Bp e).2⟩) e
 ·cases e
def Jf (ti:Types) (t:TypeId) (x y:AV) (fresh:Nat) (h:Heap) (k:Out→Option γ):Option γ:=
 Ca ti t fun q=>match q.desc with
 | .slice e=>Ca ti e fun j=>BB (Nat.blt 0 j.size)<| Up x h (AR j.desc) j.size fun ids rows=>Uq y h (AR j.desc) j.size fun is ys=>
   BB (nodupB (ids++is))<| DH j.bytes rows ys fun out=>k ⟨.v (.c (.ow (.loc fresh))),ids++(is++iZ y),Ah (ids++is)++[(.loc fresh,.tree .row (AR j.desc) j.size out none)]⟩
 | _=>none
theorem P6 (hk:∀o,k o=some r→P o) (e:Jf ti t x y fresh h k=some r):IW M ti t x y fresh h P:=by
 unfold Jf at e
 unfold IW
 refine Ab (fun q e=>?_) e
 split at e
 ·rename_i hq
  simp only[hq]
  refine Ab (fun j e=>AN (fun e=>XK (fun ids rows e=>XL (fun is ys e=>AN (fun e=>?_) e) e) e) e) e
  obtain⟨out,h1,h2,e⟩:=Gf e
  exact⟨(M.lock_iff _).2 h1,out,h2,hk _ e⟩
 ·cases e
def Ur (x:AV) (h:Heap) (ag:Bool) (sz:Nat) (K:List Id→List D→Option γ):Option γ:=
 match x with
 | .v (.c (.nils _ _))=>K [] []
 | .v (.c (.ow i))=>(match h i with
  | some (.tree kd ag' sz' rows foc)=>(match foc with
   | none=>(match kd with
    | .flat=>BB (ag'==ag) (BB (Nat.beq sz' sz) (K [i] rows))
    | .row=>(match rows with
     | []=>BB (ag'==ag) (BB (Nat.beq sz' sz) (K [i] []))
     | _=>none)
    | _=>none)
   | some _=>none)
  | _=>none)
 | _=>none
theorem XM {P:List Id→List D→Prop}(hk:∀a b,K a b=some r→P a b) (e:Ur x h ag sz K=some r):YG x h ag sz P:=by
 unfold Ur at e
 unfold YG
 split at e
 ·exact hk _ _ e
 ·split at e
  ·rename_i hi
   split at e
   ·split at e
    ·simp only[hi];exact AN (AN (hk _ _)) e
    ·split at e
     ·simp only[hi];exact AN (AN (hk _ _)) e
     ·cases e
    ·cases e
   ·cases e
  ·cases e
 ·cases e
def Jg (ti:Types) (t:TypeId) (x y:AV) (fresh:Nat) (h:Heap) (k:Out→Option γ):Option γ:=
 Ca ti t fun q=>match q.desc with
 | .slice e=>Ca ti e fun j=>BB (Nat.blt 0 j.size)<| Ur x h (AR j.desc) j.size fun ids rows=>qX y fun ag sz ys=>BB (ag==AR j.desc)<| BB (Nat.beq sz j.size)<|
   DH j.bytes rows ys fun out=>k ⟨.v (.c (.ow (.loc fresh))),ids,Ah ids++[(.loc fresh,.tree .flat (AR j.desc) j.size out none)]⟩
 | _=>none
theorem P7 (hk:∀o,k o=some r→P o) (e:Jg ti t x y fresh h k=some r):GY M ti t x y fresh h P:=by
 unfold Jg at e
 unfold GY
 refine Ab (fun q e=>?_) e
 split at e
 ·rename_i hq
  simp only[hq]
  refine Ab (fun j e=>AN (fun e=>XM (fun ids rows e=>MF (fun ag sz ys e=>AN (AN fun e=>?_) e) e) e) e) e
  obtain⟨out,h1,h2,e⟩:=Gf e
  exact⟨(M.lock_iff _).2 h1,out,h2,hk _ e⟩
 ·cases e
def FY (ti:Types) (s:AL) (e:TypeId) (sz:Nat):Nat→List (Nat×Operand)→(List CV→Option γ)→Option γ
 | _,[],k=>k []
 | n,(i,x)::l,k=>BB (Nat.beq i n)<| match AX ti s e x with
  | .v y=>BB (Nat.beq y.cells.length sz)<| FY ti s e sz (n+1) l fun cs=>k (y.cells++cs)
  | _=>none
theorem Ex {ti:Types}{s:AL}{e:TypeId}{sz:Nat}:∀{l:List (Nat×Operand)}{n:Nat}{k:List CV→Option γ}{P:List CV→Prop},(∀c,k c=some r→P c)→FY ti s e sz n l k=some r→Fj ti s e sz n l P
 | [],_,_,_,hk,h=>hk _ h
 | (i,x)::l,n,k,P,hk,h=>by
  unfold FY at h
  unfold Fj
  refine AN (fun h=>?_) h
  split at h
  ·rename_i hy
   simp only[hy]
   exact AN (fun h=>Ex (fun c h=>hk _ h) h) h
  ·cases h
def Us (ys:List D) (k:List D→Option γ):Option γ:=match ys with
 | []=>k []
 | y::l=>Hs (y::l) k
theorem Ut {ys:List D}{k:List D→Option γ}(h:Us ys k=some r):k ys=some r:=by
 unfold Us at h
 split at h
 ·exact h
 ·exact h
def E6 (ti:Types) (s:AL) (t:TypeId) (len:Nat) (parts:List (Nat×Operand)) (fresh:Nat) (h:Heap) (k:Out→Option γ):Option γ:=
 Ca ti t fun q=>match q.desc with
 | .slice e=>Ca ti e fun j=>BB (Nat.ble (len*j.size) 16777216)<| BB (Nat.beq parts.length len)<| BB (Nat.blt 0 j.size)<| FY ti s e j.size 0 parts fun cs=>
   Iw h cs fun ds is=>BB (nodupB is)<| BB (Nat.ble len maxLen)<| Us (rowsOf (AR j.desc) j.size len ds) fun ys=>k ⟨.v (.c (.ow (.loc fresh))),is,Ah is++[(.loc fresh,.tree .row (AR j.desc) j.size ys none)]⟩
 | _=>none
variable {parts:List (Nat×Operand)}
theorem Jh {s:AL}{len:Nat}(hk:∀o,k o=some r→P o) (e:E6 ti s t len parts fresh h k=some r):En ti s t len parts fresh h P:=by
 unfold E6 at e
 unfold En
 refine Ab (fun q e=>?_) e
 split at e
 ·rename_i hq
  simp only[hq]
  refine Ab (fun j e=>AN (AN (AN fun e=>Ex (fun cs e=>?_) e)) e) e
  exact Gl (fun ds is e=>AN (AN fun e=>⟨_,rfl,hk _ (Ut e)⟩) e) e
 ·cases e
def E7 (ti:Types) (s:AL) (t:TypeId) (len:Nat) (parts:List (Nat×Operand)) (fresh:Nat) (k:Out→Option γ):Option γ:=
 Ca ti t fun q=>match q.desc with
 | .slice e=>Ca ti e fun j=>BB (Nat.ble (len*j.size) 16777216)<| BB (Nat.beq parts.length len)<| BB (Nat.blt 0 j.size)<| FY ti s e j.size 0 parts fun cs=>
   k ⟨.v (.c (.sl (.loc fresh) len)),[],[(.loc fresh,.cells cs)]⟩
 | _=>none
theorem Ji {s:AL}{len:Nat}(hk:∀o,k o=some r→P o) (e:E7 ti s t len parts fresh k=some r):DR ti s t len parts fresh P:=by
 unfold E7 at e
 unfold DR
 refine Ab (fun q e=>?_) e
 split at e
 ·rename_i hq
  simp only[hq]
  exact Ab (fun j e=>AN (AN (AN fun e=>Ex (fun cs e=>hk _ e) e)) e) e
 ·cases e
def Uu (own:Bool) (ti:Types) (t:TypeId) (x y:AV) (fresh:Nat) (k:Out→Option γ):Option γ:=
 Nb x fun n=>Nb y fun m=>Ca ti t fun q=>match q.desc with
 | .slice e=>Ca ti e fun j=>BB (Nat.blt 0 j.size)<| (match vC j.zc with
  | some ds=>Oa j.bytes (rowOf (AR j.desc) ds) n m fun rows=>(match own with
   | true=>k ⟨.v (.c (.ow (.loc fresh))),[],[(.loc fresh,.tree .row (AR j.desc) j.size rows none)]⟩
   | false=>k ⟨.v (.c (.tl (AR j.desc) j.size rows)),[],[]⟩)
  | none=>none)
 | _=>none
theorem XN {own:Bool}(hk:∀o,k o=some r→P o) (e:Uu own ti t x y fresh k=some r):DU M ti t x y fresh P:=by
 unfold Uu at e
 unfold DU
 refine Fy (fun _ n e=>Fy (fun _ m e=>Ab (fun q e=>?_) e) e) e
 split at e
 ·rename_i hq
  simp only[hq]
  refine Ab (fun j e=>AN (fun e=>?_) e) e
  split at e
  ·rename_i hz
   obtain⟨rows,h1,h2,e⟩:=Wv e
   simp only[hz]
   refine⟨(M.lock_iff _).2 h1,rows,h2,own,?_⟩
   grind
  ·cases e
 ·cases e
def kP (x:AV) (h:Heap) (K:Id→Bool→Nat→List D→Option γ):Option γ:=
 match x with
 | .v (.c (.ow id))=>(match h id with
  | some (.tree kd ag sz rows foc)=>(match kd with
   | .flat=>(match foc with
    | none=>K id ag sz rows
    | some _=>none)
   | _=>none)
  | _=>none)
 | _=>none
theorem Vs {K:Id→Bool→Nat→List D→Option γ}{P:Id→Bool→Nat→List D→Prop}(hk:∀a b c d,K a b c d=some r→P a b c d) (e:kP x h K=some r):JR x h P:=by
 unfold kP at e
 unfold JR
 grind
def ZC (x:AV) (h:Heap) (K:Id→Bool→Nat→List D→Nat→Nat→Option γ):Option γ:=
 match x with
 | .v (.c (.op id sz kk o))=>(match h id with
  | some (.tree kd ag sz' rows foc)=>(match kd with
   | .flat=>(match foc with
    | none=>BB (Nat.beq sz' sz) (K id ag sz' rows kk o)
    | some _=>none)
   | _=>none)
  | _=>none)
 | _=>none
theorem P8 {K:Id→Bool→Nat→List D→Nat→Nat→Option γ}{P:Id→Bool→Nat→List D→Nat→Nat→Prop}(hk:∀a b c d e f,K a b c d e f=some r→P a b c d e f) (e:ZC x h K=some r):Hd x h P:=by
 unfold ZC at e
 unfold Hd
 split at e
 ·split at e
  ·rename_i hi
   split at e
   ·split at e
    ·simp only[hi];exact AN (hk _ _ _ _ _ _) e
    ·cases e
   ·cases e
  ·cases e
 ·cases e
def Sm (ds:Ds γ) (el:oO) (ti:Types) (t:TypeId) (x:AV) (h:Heap) (k:Out→Option γ):Option γ:=
 Ca ti t fun i=>ZC x h fun id ag sz rows kk o=>EJ rows kk fun d=>ds (el ag sz t o) d fun d=>BB (Nat.ble (o+i.size) d.cells.length) (k ⟨.v (V1.Aa (AR i.desc) (((d.cells.drop o).take i.size).map CV.d)),[id],[]⟩)
theorem Sp (hd:ds.ok) (hk:∀o,k o=some r→P o) (e:Sm ds el ti t x h k=some r):IZ ti t x h P:=by
 refine Ab (fun i e=>P8 (fun id ag sz rows kk o e=>?_) e) e
 obtain⟨d,h1,e⟩:=Ed e
 replace e:=hd _ _ _ _ e
 exact⟨d,h1,AN (hk _) e⟩
def Om (ds:Ds γ) (el:oO) (ti:Types) (t:TypeId) (x y:AV) (h:Heap) (k:Out→Option γ):Option γ:=
 Ca ti t fun i=>match y with
 | .v y=>(match y.norm with
  | .d v=>BB (Nat.beq v.cells.length i.size)<| ZC x h fun id ag sz rows kk o=>EJ rows kk fun d=>ds (el ag sz t o) d fun d=>BB (Nat.ble (o+i.size) d.cells.length)<|
    SE rows kk (rowOf ag (d.cells.take o++v.cells++d.cells.drop (o+i.size))) fun rows'=>k ⟨.u,[id],[(id,.tree .flat ag sz rows' none)]⟩
  | _=>none)
 | _=>none
theorem QA (hd:ds.ok) (hk:∀o,k o=some r→P o) (e:Om ds el ti t x y h k=some r):HF ti t x y h P:=by
 refine Ab (fun i e=>?_) e
 split at e
 ·split at e
  ·rename_i hn
   simp only[DL,hn]
   refine AN (fun e=>P8 (fun id ag sz rows kk o e=>?_) e) e
   obtain⟨d,h1,e⟩:=Ed e
   replace e:=hd _ _ _ _ e
   refine⟨d,h1,AN (fun e=>?_) e⟩
   obtain⟨out,h2,e⟩:=SF e
   simp_all
  ·cases e
 ·cases e
def Jj (ti:Types) (t:TypeId) (x:AV) (f:Nat) (h:Heap) (k:Out→Option γ):Option γ:=
 Ca ti t fun i=>match i.desc with
 | .struct fs=>(match fs[f]? with
  | some fd=>Ca ti fd.type fun j=>BB (Nat.blt 0 j.size)<| ZC x h fun id _ sz _ kk o=>k ⟨.v (.c (.op id sz kk (o+fd.offset))),[id],[]⟩
  | none=>none)
 | _=>none
theorem QB {f:Nat}(hk:∀o,k o=some r→P o) (e:Jj ti t x f h k=some r):FP ti t x f h P:=by
 unfold Jj at e
 unfold FP
 refine Ab (fun i e=>?_) e
 split at e
 ·rename_i hf
  split at e
  ·rename_i hfd
   simp only[hf,hfd]
   exact Ab (fun j e=>AN (fun e=>P8 (fun _ _ _ _ _ _ e=>hk _ e) e) e) e
  ·cases e
 ·cases e
def Jk (ti:Types) (t:TypeId) (x i:AV) (h:Heap) (k:Out→Option γ):Option γ:=
 Nb i fun n=>Ca ti t fun q=>match q.desc with
 | .slice e=>Ca ti e fun j=>kP x h fun id _ sz rows=>BB (Nat.beq sz j.size)<| Bs (0≤n∧n.toNat<rows.length) (k ⟨.v (.c (.op id sz n.toNat 0)),[id],[]⟩)
 | _=>none
theorem QC {i:AV}(hk:∀o,k o=some r→P o) (e:Jk ti t x i h k=some r):FQ M ti t x i h P:=by
 unfold Jk at e
 unfold FQ
 refine Fy (fun _ n e=>Ab (fun q e=>?_) e) e
 split at e
 ·rename_i hq
  simp only[hq]
  refine Ab (fun j e=>Vs (fun id ag sz rows e=>AN (fun e=>?_) e) e) e
  obtain⟨h1,e⟩:=Bp e
  exact⟨(M.lock_iff _).2 h1,hk _ e⟩
 ·cases e
def QD (ti:Types) (t:TypeId) (x:AV) (h:Heap) (k:Out→Option γ):Option γ:=
 Ca ti t fun q=>match q.desc with
 | .slice _=>kP x h fun id _ _ rows=>AP rows fun z=>k ⟨.v (.d (.int .i64 z)),[id],[]⟩
 | _=>none
theorem Uv (hk:∀o,k o=some r→P o) (e:QD ti t x h k=some r):Ia M ti t x h P:=by
 unfold QD at e
 unfold Ia
 refine Ab (fun q e=>?_) e
 split at e
 ·rename_i hq
  simp only[hq]
  exact Vs (fun id _ _ rows e=>(Ge M e).imp fun z h=>⟨h.1,hk _ h.2⟩) e
 ·cases e
def evM (x:AV) (h:Heap) (K:Id→Bool→Nat→List D→Option γ):Option γ:=
 match x with
 | .v (.c (.ow id))=>(match h id with
  | some (.tree kd ag sz rows foc)=>(match kd with
   | .fmap e=>(match ag with
    | true=>(match foc with
     | none=>K id e sz rows
     | some _=>none)
    | false=>none)
   | _=>none)
  | _=>none)
 | _=>none
theorem ZD {K:Id→Bool→Nat→List D→Option γ}{P:Id→Bool→Nat→List D→Prop}(hk:∀a b c d,K a b c d=some r→P a b c d) (e:evM x h K=some r):OI x h P:=by
 unfold evM at e
 unfold OI
 grind
def Jl (ds:Ds γ) (ti:Types) (t:TypeId) (x key:AV) (ok:Bool) (h:Heap) (pl:Pl) (k:Pl→Out→Option γ):Option γ:=
 Ca ti t fun q=>match q.desc with
 | .map kt et=>Ca ti kt fun kk=>Ca ti et fun j=>BB (Hb j)<| (match key with
  | .v (.d key)=>BB (GX kk.desc key)<| evM x h fun id e _ rows=>BB (e==AR j.desc)<| findF e key rows
    (fun y=>ds et y fun y=>match ok with
     | true=>k (pl.at true) ⟨.t [.d y,.d (.bool true)],[id],[]⟩
     | false=>k (pl.at true) ⟨.v (.d y),[id],[]⟩)
    (match ok with
     | true=>k (pl.at false) ⟨.t [V1.Aa (AR j.desc) j.zc,.d (.bool false)],[id],[]⟩
     | false=>k (pl.at false) ⟨.v (V1.Aa (AR j.desc) j.zc),[id],[]⟩)
  | _=>none)
 | _=>none
theorem QE (hd:ds.ok) {key:AV}{ok:Bool}{k:Pl→Out→Option γ}(hk:∀p o,k p o=some r→P o) (e:Jl ds ti t x key ok h pl k=some r):EX M ti t x key ok h P:=by
 unfold Jl at e
 unfold EX
 refine Ab (fun q e=>?_) e
 split at e
 ·rename_i hq
  simp only[hq]
  refine Ab (fun kk e=>Ab (fun j e=>AN (fun e=>?_) e) e) e
  split at e
  ·refine AN (fun e=>ZD (fun id e' sz rows e=>AN (fun e=>?_) e) e) e
   rcases Oe e with⟨y,h1,e⟩ | ⟨h1,e⟩
   ·refine⟨some y,(M.lock_iff _).2 h1,?_⟩
    replace e:=hd _ _ _ _ e
    grind
   ·refine⟨none,(M.lock_iff _).2 h1,?_⟩
    grind
  ·cases e
 ·cases e
def HJ (ti:Types) (t:TypeId) (x key y:AV) (h:Heap) (k:Out→Option γ):Option γ:=
 Ca ti t fun q=>match q.desc with
 | .map kt et=>Ca ti kt fun kk=>Ca ti et fun j=>(match key with
  | .v (.d key)=>BB (GX kk.desc key)<| (match y with
   | .v y=>(match y.norm with
    | .d d=>BB (d.isAgg==AR j.desc)<| BB (Nat.beq d.cells.length j.size)<| evM x h fun id e sz rows=>BB (e==AR j.desc)<| BB (Nat.beq sz (j.size+1))<|
      CO key d.cells rows fun rows'=>k ⟨.u,[id],[(id,.tree (.fmap e) true sz rows' none)]⟩
    | _=>none)
   | _=>none)
  | _=>none)
 | _=>none
theorem Iy {key:AV}(hk:∀o,k o=some r→P o) (e:HJ ti t x key y h k=some r):Dl M ti t x key y h P:=by
 unfold HJ at e
 unfold Dl
 refine Ab (fun q e=>?_) e
 split at e
 ·rename_i hq
  simp only[hq]
  refine Ab (fun kk e=>Ab (fun j e=>?_) e) e
  split at e
  ·refine AN (fun e=>?_) e
   split at e
   ·split at e
    ·rename_i hn
     simp only[DL,hn]
     refine AN (AN fun e=>ZD (fun id e' sz rows e=>AN (AN fun e=>?_) e) e) e
     obtain⟨out,h1,e⟩:=Ys e
     exact⟨out,(M.lock_iff _).2 h1,hk _ e⟩
    ·cases e
   ·cases e
  ·cases e
 ·cases e
def Oo (ti:Types) (t:TypeId) (fresh:Nat) (k:Out→Option γ):Option γ:=
 Ca ti t fun q=>match q.desc with
 | .map _ et=>Ca ti et fun j=>k ⟨.v (.c (.ow (.loc fresh))),[],[(.loc fresh,.tree (.fmap (AR j.desc)) true (j.size+1) [] none)]⟩
 | _=>none
theorem QF (hk:∀o,k o=some r→P o) (e:Oo ti t fresh k=some r):Eo ti t fresh P:=by
 refine Ab (fun q e=>?_) e
 split at e
 ·rename_i hq;simp only[hq];exact Ab (fun j e=>hk _ e) e
 ·cases e
end
end
end Go.AM
namespace Go.AM
open Go Go.RowKit
section
variable {γ:Type}{r:γ}
def oP (ti:Types) (s:AL) (x:Option Operand) (d:Option γ) (k:Int→Option γ):Option γ:=
 match x with
 | none=>d
 | some x=>Nb (AX ti s 3 x) k
def QG (ti:Types) (s:AL) (t:TypeId) (x:AV) (lo hi mx:Option Operand) (k:Out→Option γ):Option γ:=
 Ca ti t fun q=>match q.desc with
 | .string=>(match x with
  | .v (.d (.str b))=>(match mx with
   | none=>(match lo with
    | none=>(match hi with
     | none=>none
     | some u=>Nb (AX ti s 3 u) fun u=>jW b 0 u fun c=>k ⟨.v (.d (.str c)),[],[]⟩)
    | some l=>Nb (AX ti s 3 l) fun l=>(match hi with
     | none=>UI b l fun c=>k ⟨.v (.d (.str c)),[],[]⟩
     | some u=>Nb (AX ti s 3 u) fun u=>jW b l u fun c=>k ⟨.v (.d (.str c)),[],[]⟩))
   | some _=>none)
  | _=>none)
 | .slice e=>Ca ti e fun j=>match x with
  | .v (.c (.sl _ n))=>(match lo,hi,mx with
   | none,some u,none=>Nb (AX ti s 3 u) fun z=>(match z with
    | .ofNat 0=>BB (Nat.ble n 4294967296) (k ⟨.v (.d (.list (AR j.desc) j.size [])),[],[]⟩)
    | _=>none)
   | _,_,_=>none)
  | x=>qX x fun ag sz rows=>BB (AR j.desc==ag)<| BB (Nat.beq sz j.size)<| oP ti s lo
   (match hi with
    | none=>none
    | some u=>Nb (AX ti s 3 u) fun u=>(match mx with
     | none=>Gg rows 0 u fun out=>k ⟨.v (.d (.list ag sz out)),[],[]⟩
     | some m=>Nb (AX ti s 3 m) fun v=>Kw rows 0 u v fun out=>k ⟨.v (.c (.tl ag sz out)),[],[]⟩))
   fun l=>(match hi with
    | none=>(match mx with
     | none=>Yl rows l fun out=>k ⟨.v (.d (.list ag sz out)),[],[]⟩
     | some _=>none)
    | some u=>Nb (AX ti s 3 u) fun u=>(match mx with
     | none=>Gg rows l u fun out=>k ⟨.v (.d (.list ag sz out)),[],[]⟩
     | some m=>Nb (AX ti s 3 m) fun v=>Kw rows l u v fun out=>k ⟨.v (.c (.tl ag sz out)),[],[]⟩))
 | _=>none
section
variable {x:AV}
theorem Dd {k:Int→Option γ}(h:Nb x k=some r):∃q n,x= .v (.d (.int q n))∧k n=some r:=by
 unfold Nb at h
 grind
variable {k:Out→Option γ}{M:Au}{ti:Types}{t:TypeId}{P:Out→Prop}
theorem Uw {s:AL}{lo hi mx:Option Operand}(hk:∀o,k o=some r→P o) (e:QG ti s t x lo hi mx k=some r):GQ M ti s t x lo hi mx P:=by
 unfold QG at e
 unfold GQ
 refine Ab (fun q e=>?_) e
 split at e
 ·rename_i hq
  simp only[hq]
  split at e
  ·split at e
   ·split at e
    ·split at e
     ·cases e
     ·obtain⟨q2,u,h2,e⟩:=Dd e
      obtain⟨c,h3,h4,e⟩:=SG M e
      simp only[KZ,h2,C7]
      simp_all
    ·obtain⟨q1,l,h1,e⟩:=Dd e
     split at e
     ·obtain⟨c,h3,h4,e⟩:=UJ M e
      simp only[KZ,h1,C7]
      simp_all
     ·obtain⟨q2,u,h2,e⟩:=Dd e
      obtain⟨c,h3,h4,e⟩:=SG M e
      simp only[KZ,h1,h2,C7]
      simp_all
   ·cases e
  ·cases e
 ·rename_i el hq
  simp only[hq]
  refine Ab (fun j e=>?_) e
  split at e
  ·split at e
   ·obtain⟨q1,z,h1,e⟩:=Dd e
    split at e
    ·obtain⟨h2,e⟩:=AG e
     simp only[PN,h1,C7]
     exact AA.2 ⟨h2,rfl,hk _ e⟩
    ·cases e
   ·cases e
  split
  ·simp_all
  refine MF (fun ag sz rows e=>AN (AN fun e=>?_) e) e
  unfold oP at e
  split at e
  ·split at e
   ·cases e
   ·obtain⟨q2,u,h2,e⟩:=Dd e
    simp only[KZ,h2,C7]
    split at e
    ·obtain⟨c,h3,h4,e⟩:=L9 M e
     simp_all
    ·obtain⟨q3,v,h5,e⟩:=Dd e
     obtain⟨c,h3,h4,e⟩:=KM M e
     simp_all
  ·obtain⟨q1,l,h1,e⟩:=Dd e
   split at e
   ·split at e
    ·obtain⟨c,h3,h4,e⟩:=Wt M e
     simp only[KZ,h1,C7]
     simp_all
    ·cases e
   ·obtain⟨q2,u,h2,e⟩:=Dd e
    simp only[KZ,h1,h2,C7]
    split at e
    ·obtain⟨c,h3,h4,e⟩:=L9 M e
     simp_all
    ·obtain⟨q3,v,h5,e⟩:=Dd e
     obtain⟨c,h3,h4,e⟩:=KM M e
     simp_all
 ·cases e
def ZE (ds:Ds γ) (ti:Types) (t:TypeId) (x i:AV) (k:Out→Option γ):Option γ:=
 Nb i fun n=>Ca ti t fun q=>match q.desc with
 | .string=>(match x with
  | .v (.d (.str b))=>oB b n fun z=>k ⟨.v (.d (.int .u8 z)),[],[]⟩
  | _=>none)
 | .array len e=>Ca ti e fun j=>(match x with
  | .v (.d (.agg cs))=>BB (Nat.beq cs.length (len*j.size))<| An (rowsOf (AR j.desc) j.size len cs) n fun d=>ds e d fun d=>k ⟨.v (.d d),[],[]⟩
  | .v (.agg cs)=>BB (Nat.beq cs.length (len*j.size))<| (match n with
   | .ofNat p=>BB (Nat.blt p len) (k ⟨.v (V1.Aa (AR j.desc) ((cs.drop (p*j.size)).take j.size)),[],[]⟩)
   | .negSucc _=>none)
  | _=>none)
 | _=>none
theorem ZF {ds:Ds γ}(hd:ds.ok) {i:AV}(hk:∀o,k o=some r→P o) (e:ZE ds ti t x i k=some r):FH ti t x i P:=by
 unfold ZE at e
 unfold FH
 refine Fy (fun _ n e=>Ab (fun q e=>?_) e) e
 split at e
 ·rename_i hq
  simp only[hq]
  split at e
  ·obtain⟨z,h1,h2⟩:=jX e
   grind
  ·cases e
 ·rename_i hq
  simp only[hq]
  refine Ab (fun j e=>?_) e
  split at e
  ·refine AN (fun e=>?_) e
   obtain⟨d,⟨h1,h2⟩,h3⟩:=L8 e
   exact⟨d,h1,h2,hk _ (hd _ _ _ _ h3)⟩
  ·refine AN (fun e=>?_) e
   split at e
   ·obtain⟨h1,e⟩:=AG e
    exact⟨_,⟨rfl,by simpa using h1⟩,hk _ e⟩
   ·cases e
  ·cases e
 ·cases e
def QH (ti:Types) (t:TypeId) (x:AV) (ok:Bool) (k:Out→Option γ):Option γ:=
 Ca ti t fun q=>match q.desc with
 | .map kt et=>Ca ti kt fun kk=>Ca ti et fun j=>BB (plainKey kk.desc)<| BB (Hb j)<| (match x with
  | .v (.c .nilm)=>(match ok with
   | true=>k ⟨.t [V1.Aa (AR j.desc) j.zc,.d (.bool false)],[],[]⟩
   | false=>k ⟨.v (V1.Aa (AR j.desc) j.zc),[],[]⟩)
  | _=>none)
 | _=>none
theorem Ux {key:AV}{ok:Bool}(hk:∀o,k o=some r→P o) (e:QH ti t x ok k=some r):FJ ti t x key ok P:=by
 unfold QH at e
 unfold FJ
 refine Ab (fun q e=>?_) e
 split at e
 ·rename_i hq
  simp only[hq]
  refine Ab (fun kk e=>Ab (fun j e=>AN (AN fun e=>?_) e) e) e
  grind
 ·cases e
def DA:List Gh→St→(St→Option γ)→Option γ
 | [],σ,K=>K σ
 | x::l,σ,K=>match x with
  | .close i=>Dc (AJ σ.heap) [i] fun _ _ wr=>DA l ⟨σ.slots,Cb σ.heap wr,σ.next⟩ K
  | .treeS t ag sz=>BB (Nat.blt 0 sz)<| BB (Ik ag sz (AQ σ.slots t))<| DA l (Im t ag sz σ) K
  | .treeC i j ag sz=>BB (Nat.blt 0 sz)<| (match AJ σ.heap i with
   | some (.cells cs)=>BB (JW ag sz (Wn cs j))<| DA l (Ip i j ag sz σ) K
   | _=>none)
  | .freeze i=>(match AJ σ.heap i with
   | some (.tree kd ag sz rows foc)=>(match foc with
    | none=>BB (qJ kd)<| DA l (R7 i (.list ag sz rows) σ) K
    | some _=>none)
   | _=>none)
  | .unC i j=>(match AJ σ.heap i with
   | some (.cells cs)=>DA l ⟨σ.slots,Cj σ.heap i (.cells (Hl cs j .un)),σ.next⟩ K
   | _=>none)
  | .flatten i=>(match AJ σ.heap i with
   | some (.tree kd ag sz rows foc)=>(match kd with
    | .row=>(match foc with
     | none=>DA l ⟨σ.slots,Cj σ.heap i (.tree .flat ag sz rows none),σ.next⟩ K
     | some _=>none)
    | _=>none)
   | _=>none)
  | .move i=>(match AJ σ.heap i with
   | some (.tree kd ag sz rows foc)=>(match foc with
    | none=>DA l (UF i (.tree kd ag sz rows none) σ) K
    | some _=>none)
   | _=>none)
  | .fnlS t f cs=>(match AQ σ.slots t with
   | .v (.c (.nils _ _))=>DA l (Kv t f cs σ) K
   | _=>none)
  | .cloz t=>(match AQ σ.slots t with
   | .v (.c (.fn f Ch))=>BB (nodupB Ch)<| (match Fv (AJ σ.heap) Ch with
    | some cs=>DA l ⟨(t,.v (.c (.fz f cs)))::σ.slots,Cb σ.heap (Ah Ch),σ.next⟩ K
    | none=>none)
   | _=>none)
theorem Cw:∀{l:List Gh}{σ:St}{K:St→Option γ}{P:St→Prop},(∀σ,K σ=some r→P σ)→DA l σ K=some r→gh l σ P
 | [],_,_,_,hk,e=>hk _ e
 | x::l,σ,K,P,hk,e=>by
  unfold DA at e
  unfold gh
  split at e
  ·exact Gm (fun _ _ wr e=>Cw hk e) e
  ·exact AN (AN fun e=>Cw hk e) e
  ·refine AN (fun e=>?_) e
   split at e
   ·rename_i hi;simp only[hi];exact AN (fun e=>Cw hk e) e
   ·cases e
  ·split at e
   ·rename_i hi
    split at e
    ·simp only[hi];exact AN (fun e=>Cw hk e) e
    ·cases e
   ·cases e
  ·split at e
   ·rename_i hi;simp only[hi];exact Cw hk e
   ·cases e
  ·split at e
   ·rename_i hi
    split at e
    ·split at e
     ·simp only[hi];exact Cw hk e
     ·cases e
    ·cases e
   ·cases e
  ·split at e
   ·rename_i hi
    split at e
    ·simp only[hi];exact Cw hk e
    ·cases e
   ·cases e
  ·split at e
   ·rename_i hi;simp only[hi];exact Cw hk e
   ·cases e
  ·split at e
   ·rename_i hi
    obtain⟨h1,e⟩:=AG e
    simp only[hi]
    refine AA.2 ⟨h1,?_⟩
    split at e
    ·rename_i hb;simp only[hb];exact Cw hk e
    ·cases e
   ·cases e
def Sq:List FC→List Id
 | []=>[]
 | .p i::l=>i::Sq l
 | _::l=>Sq l
def oQ:CV→List Id
 | .fz _ cs=>Sq cs
 | c=>ABh c
def QI:List CV→List Id
 | []=>[]
 | c::cs=>oQ c++QI cs
def oS:V1→List Id
 | .d _=>[]
 | .c x=>oQ x
 | .agg cs=>QI cs
def Cc:List V1→List Id
 | []=>[]
 | x::xs=>oS x++Cc xs
def xK:AV→List Id
 | .u=>[]
 | .v x=>oS x
 | .t xs=>Cc xs
 | .df _ cs _=>Sq cs
def oT:List (Nat×AV)→List Id
 | []=>[]
 | x::l=>xK x.2++oT l
def xL:Option AD→List Id
 | some (.rnd _ sl)=>oT sl
 | some (.cells cs)=>QI cs
 | some (.tree _ _ _ _ foc)=>(match foc with
  | some x=>QI x.2
  | none=>[])
 | some (.fnl _ cs _)=>Sq cs
 | _=>[]
def Ce (h:Heap):Nat→List Id→List Id→List Id
 | 0,_,acc=>acc
 | _+1,[],acc=>acc
 | n+1,i::t,acc=>match D4 i acc with
  | true=>Ce h n t acc
  | false=>Ce h n (xL (h i)++t) (acc++[i])
def ZG:AD→AD→Bool
 | .cells _,.cells _=>true
 | .tree ..,.tree ..=>true
 | .arr ..,.arr ..=>true
 | .map ..,.map ..=>true
 | .pmap ..,.pmap ..=>true
 | .rnd ..,.rnd ..=>true
 | .rnd ..,.rndX _=>true
 | .rndX _,.rndX _=>true
 | _,.gone=>true
 | _,_=>false
def QJ:List AD→List AD→Bool
 | [],[]=>true
 | a::al,b::bs=>match ZG a b with
  | true=>QJ al bs
  | false=>false
 | _,_=>false
theorem ZH {a b:AD}(h:ZG a b=true):sameKind a b:=by
 unfold ZG at h
 split at h
 ·trivial
 ·trivial
 ·trivial
 ·trivial
 ·trivial
 ·trivial
 ·trivial
 ·trivial
 ·cases a<;>trivial
 ·cases h
theorem Oq:∀{a b:List AD},QJ a b=true→Bc a b
 | [],[],_=>trivial
 | a::al,b::bs,h=>by
  unfold QJ at h
  split at h
  ·rename_i hk;exact⟨ZH hk,Oq h⟩
  ·cases h
 | [],_::_,h=>by cases h
 | _::_,[],h=>by cases h
abbrev Xo (γ:Type):=FuncId→List V1→List AD→(Nat→To→Option γ)→Option γ
abbrev oU:=FuncId→List V1→List AD→To→Prop
def TrC (P:Program) (I:Inv):oU:=fun f args pre x=>Ct P I f args pre x.res x.post x.new
def Xo.Nd (T:oU) (call:Xo γ):Prop:=∀f args pre k r,call f args pre k=some r→∃i res post new,T f args pre ⟨res,post,new⟩∧k i ⟨res,post,new⟩=some r
abbrev Xo.ok (P:Program) (I:Inv) (call:Xo γ):Prop:=call.Nd (TrC P I)
def Iz (call:Xo γ) (f:FuncId) (xs:List V1) (m:List Id) (fresh:Nat) (h:Heap) (pl:Pl) (k:Pl→AV→List (Id×AD)→Option γ):Option γ:=
 match Dq h m with
 | none=>none
 | some objs=>BB (BZ (wR (Vo m fresh)) xs)<| BB (BZ (MB (Vo m fresh)) objs)<| BB (nodupB m)<|
   call f (xs.map (V1.Az (Y7 m))) (objs.map (AD.Az (Y7 m))) fun i ret=>
    BB (QJ (objs.map (AD.Az (Y7 m))) ret.post)<| BB (Nat.ble ret.new.length 31)<|
     k (pl.nth i) (ret.res.Az (BF m fresh)) (Kk m (BF m fresh) ret.post++Cf fresh (BF m fresh) 0 ret.new)
variable {call:Xo γ}{fresh:Nat}{h:Heap}{pl:Pl}
theorem Hx {T:oU}(hc:call.Nd T) {f:FuncId}{xs:List V1}{m:List Id}{k:Pl→AV→List (Id×AD)→Option γ}(e:Iz call f xs m fresh h pl k=some r):
  ∃(targs:List V1) (pre:List AD) (res:AV) (post new:List AD) (p:Pl),T f targs pre ⟨res,post,new⟩∧xs=targs.map (V1.Az (BF m fresh))∧m.length=pre.length∧m.Nodup∧
   (∀(j:Nat) i o,m[j]?=some i→pre[j]?=some o→h i=some (o.Az (BF m fresh)))∧Bc pre post∧new.length≤31∧k p (res.Az (BF m fresh)) (Kk m (BF m fresh) post++Cf fresh (BF m fresh) 0 new)=some r:=by
 unfold Iz at e
 split at e
 ·cases e
 ·rename_i objs ho
  obtain⟨h1,e⟩:=AG e
  obtain⟨h2,e⟩:=AG e
  obtain⟨h3,e⟩:=AG e
  obtain⟨i,res,post,new,ht,e⟩:=hc _ _ _ _ _ e
  obtain⟨h4,e⟩:=AG e
  obtain⟨h5,e⟩:=AG e
  obtain⟨g1,g2⟩:=MJ ho
  refine⟨_,_,res,post,new,_,ht,?_,by simpa using g1,Y8 h3,fun j i o hm hp=>?_,Oq h4,Nat.le_of_ble_eq_true h5,e⟩
  ·rw[List.map_map]
   rw[BD]at h1
   exact (Br fun x hx=>UM (fun i hi=>Sb hi) (h1 x hx)).symm
  ·rw[List.getElem?_map,Option.map_eq_some_iff]at hp
   obtain⟨o',ho',rfl⟩:=hp
   rw[BD]at h2
   rw[Ky (p:=Vo m fresh) (fun i hi=>Sb hi) (h2 o' (List.mem_of_getElem? ho'))]
   exact g2 j i o' hm ho'
def MO:AV→Option (FuncId×List V1×List V1)
 | .v (.c (.fn n cap))=>some (n,[],cap.map fun i=>V1.c (.ptr i 0))
 | .v (.c (.bm n i))=>some (n,[V1.c (.ptr i 0)],[])
 | .v (.c (.fz n cs))=>some (n,[],cs.map WJ)
 | _=>none
def oV (w:Bool) (l:List AV):Option (List V1):=match w with
 | true=>HU l
 | false=>GB l
def Jm:List CV→List CV→Option γ→Option γ
 | [],[],k=>k
 | a::l,b::m,k=>(match a,b with
  | .d (.int q z),.d (.int q' z')=>BB (decide (q=q')) (Bs (z'=z) (Jm l m k))
  | .ow i,.ow j=>BB (Id.beq i j) (Jm l m k)
  | a,b=>BB (kN a b) (Jm l m k))
 | _,_,_=>none
theorem HK:∀{a b:List CV}{k:Option γ},Jm a b k=some r→a=b∧k=some r
 | [],[],_,e=>⟨rfl,e⟩
 | a::l,b::m,k,e=>by
  unfold Jm at e
  split at e
  ·obtain⟨h1,e⟩:=AG e
   obtain⟨h2,e⟩:=Bp e
   obtain⟨h3,e⟩:=HK e
   simp_all
  ·obtain⟨h1,e⟩:=AG e
   obtain⟨h3,e⟩:=HK e
   rw[Id.beq_iff.1 h1,h3];exact⟨rfl,e⟩
  ·obtain⟨h1,e⟩:=AG e
   obtain⟨h3,e⟩:=HK e
   rw[Vq h1,h3];exact⟨rfl,e⟩
 | [],_::_,_,e=>by cases e
 | _::_,[],_,e=>by cases e
def HL (h:Heap) (ids vs rd:List Id):List (Id×AD)→(List (Id×AD)→Option γ)→Option γ
 | [],K=>K []
 | x::l,K=>(match D4 x.1 ids with
  | true=>(match D4 x.1 rd with
   | true=>(match h x.1,x.2 with
    | some (.cells a),.cells b=>BB (Sd a b) (HL h ids vs rd l K)
    | _,_=>none)
   | false=>none)
  | false=>(match D4 x.1 vs with
   | true=>(match D4 x.1 rd with
    | true=>(match h x.1,x.2 with
     | some (.cells a),.cells b=>Jm a b (HL h ids vs rd l K)
     | _,_=>none)
    | false=>none)
   | false=>HL h ids vs rd l fun wr=>K (x::wr)))
theorem Sr (i:Id) (b:List Id):∀a:List Id,D4 i (a++b)=(match D4 i a with
  | true=>true
  | false=>D4 i b)
 | []=>rfl
 | j::a=>by
  show (match Id.beq i j with | true=>true | false=>D4 i (a++b))=(match (match Id.beq i j with | true=>true | false=>D4 i a)with | true=>true | false=>D4 i b)
  cases Id.beq i j with
  | true=>rfl
  | false=>exact Sr i b a
theorem F0 {h:Heap}{ids vs rd:List Id}:∀{wr:List (Id×AD)}{K:List (Id×AD)→Option γ}{A:List (Id×AD)→Prop},(∀w,K w=some r→A w)→HL h ids vs rd wr K=some r→Lk h (ids++vs) rd wr A
 | [],_,_,hk,e=>hk _ e
 | x::l,K,A,hk,e=>by
  obtain⟨i,o⟩:=x
  unfold HL at e
  unfold Lk
  simp only[Sr]at e ⊢
  cases h1:D4 i ids with
  | true=>
   simp only[h1]at e ⊢
   cases h2:D4 i rd with
   | false=>simp_all
   | true=>
    simp only[h2]at e ⊢
    split at e
    ·rename_i hb
     obtain⟨h3,e⟩:=AG e
     exact⟨by rw[hb,Sf h3],F0 hk e⟩
    ·cases e
  | false=>
   simp only[h1]at e ⊢
   cases h4:D4 i vs with
   | true=>
    simp only[h4]at e ⊢
    cases h2:D4 i rd with
    | false=>simp_all
    | true=>
     simp only[h2]at e ⊢
     split at e
     ·rename_i hb
      obtain⟨h3,e⟩:=HK e
      exact⟨by rw[hb,h3],F0 hk e⟩
     ·cases e
   | false=>
    simp only[h4]at e ⊢
    exact F0 (fun w hw=>hk _ hw) e
def K7 (call:Xo γ) (ti:Types) (c:Call) (f:Operand) (w:Bool) (kl:List (Nat×Nat)) (fresh:Nat) (s:AL) (h:Heap) (pl:Pl) (k:Pl→Out→Option γ):Option γ:=
 match MO (AX ti s 0 f)with
 | some (n,xs1,bs)=>(match oV w (Bf ti s c.args.toList c.argTypes.toList)with
  | some xs=>Iz call n (xs1++(xs++bs)) (Ce h 100 (Cc (xs1++(xs++bs))) []) fresh h pl fun p v wr=>
    HL h (Gj h (Ce h 100 (Cc (xs1++(xs++bs))) [])) (kl.map fun x=>.ext x.1) (Ce h 100 (Cc (xs1++(xs++bs))) []) wr fun wr=>k p ⟨v,Ce h 100 (Cc (xs1++(xs++bs))) [],wr⟩
  | none=>none)
 | none=>none
theorem Ss {f:AV}{args:List AV}{K:Out→Prop}{n:FuncId}{xs1 bs:List V1}{w:Bool}{xs:List V1}(h1:MO f=some (n,xs1,bs)) (h2:oV w args=some xs) (h3:IM M.P M.I n (xs1++(xs++bs)) fresh h K):GN M f args fresh h K:=by
 have hb:∀K:List V1→Prop,K xs→FF args K:=fun K hk=>by
  cases w with
  | true=>exact⟨false,by show (match HU args with | some xs=>K xs | none=>False);rw[show HU args=some xs from h2];exact hk⟩
  | false=>exact⟨true,by show withArgs args K;unfold withArgs;rw[show GB args=some xs from h2];exact hk⟩
 unfold MO at h1
 unfold GN
 split at h1
 ·cases h1;exact hb _ ((M.lock_iff _).2 h3)
 ·cases h1;rw[List.append_nil]at h3;exact hb _ ((M.lock_iff _).2 h3)
 ·cases h1;exact hb _ ((M.lock_iff _).2 h3)
 ·cases h1
theorem MP (hc:call.ok M.P M.I) {o:Oper}{c:Call}{f:Operand}(ho:o.op= .call c) (hf:c.callee= .value f) {w:Bool}{kl:List (Nat×Nat)}{s:AL}{k:Pl→Out→Option γ}(hk:∀p o,k p o=some r→P o)
  (e:K7 call ti c f w kl fresh s h pl k=some r):DZ M ti o fresh s h P:=by
 unfold K7 at e
 split at e
 ·rename_i n xs1 bs h1
  split at e
  ·rename_i xs h2
   generalize Ce h 100 (Cc (xs1++(xs++bs))) []=m at e
   obtain⟨targs,pre,res,post,new,p,g1,g2,g3,g4,g5,g6,g7,e⟩:=Hx hc e
   unfold DZ
   rw[ho]
   simp only[]
   rw[hf]
   refine .inr (.inr ⟨Gj h m++kl.map fun x=>.ext x.1,?_⟩)
   unfold Af
   rw[ho]
   simp only[]
   rw[hf]
   exact Ss h1 h2 ⟨m,targs,pre,res,post,new,g1,g2,g3,g4,g5,g6,g7,F0 (fun wr hw=>hk _ _ hw) e⟩
  ·cases e
 ·cases e
def QK (call:Xo γ) (ti:Types) (o:Oper) (c:Call) (f:Operand) (gs:List Gh) (fresh:Nat) (σ:St) (pl:Pl) (K:Pl→St→Option γ):Option γ:=
 DA gs ⟨σ.slots,σ.heap,fresh⟩ fun σ'=>BB (Nat.beq σ'.next fresh)<| (match AX ti (AQ σ'.slots) 0 f with
  | .v (.c (.fn n cap))=>(match GB (Bf ti (AQ σ'.slots) c.args.toList c.argTypes.toList)with
   | some xs=>Iz call n (xs++cap.map fun i=>V1.c (.ptr i 0)) (Ce (AJ σ'.heap) 100 (Cc (xs++cap.map fun i=>V1.c (.ptr i 0))) []) fresh (AJ σ'.heap) pl fun p v wr=>K p ⟨Ck σ'.slots o.dst v,Cb σ'.heap wr,σ'.next⟩
   | none=>none)
  | _=>none)
theorem Uy (hc:call.ok M.P M.I) {o:Oper}{c:Call}{f:Operand}(ho:o.op= .call c) (hf:c.callee= .value f) {gs:List Gh}{σ:St}{K:Pl→St→Option γ}{P:St→Prop}(hk:∀p o,K p o=some r→P o)
  (e:QK call ti o c f gs fresh σ pl K=some r):OO M ti o fresh σ P:=by
 unfold QK at e
 unfold OO
 rw[ho]
 simp only[]
 rw[hf]
 simp only[]
 obtain⟨σ',hw,e⟩:=Bx (Cw (P:=fun σ'=>_=some r) (fun σ h=>h) e)
 obtain⟨h1,e⟩:=AG e
 refine⟨σ',hw,Nat.eq_of_beq_eq_true h1,?_⟩
 split at e
 ·rename_i n cap h2
  rw[h2]
  simp only[]
  unfold withArgs
  split at e
  ·rename_i xs h3
   rw[h3]
   obtain⟨targs,pre,res,post,new,p,g1,g2,g3,g4,g5,g6,g7,e⟩:=Hx hc e
   refine⟨_,targs,pre,fun a b c=>a=res∧b=post∧c=new,g1,g2,g3,g4,g5,?_⟩
   grind
  ·cases e
 ·cases e
end
end
end Go.AM
namespace Go.AM
open Go Go.RowKit
section
variable {γ:Type}{r:γ}
def QL:List FC→List FC
 | []=>[]
 | .d _::l=>.h::QL l
 | c::l=>c::QL l
def QM:List FC→List D
 | []=>[]
 | .d x::l=>x::QM l
 | _::l=>QM l
def noH:List FC→Bool
 | []=>true
 | .h::_=>false
 | _::l=>noH l
theorem K8:∀{l:List FC},noH l=true→fill (QL l) (QM l)=l
 | [],_=>rfl
 | .d x::l,h=>by show FC.d x::fill (QL l) (QM l)=_;rw[K8 (l:=l) h]
 | .p i::l,h=>by show FC.p i::fill (QL l) (QM l)=_;rw[K8 (l:=l) h]
 | .h::_,h=>by cases h
def ZI:List D→D
 | [x]=>x
 | ds=>.agg ds
def Uz:List D→Bool
 | [x]=>C6 x.isAgg
 | _=>true
theorem KR:∀{ds:List D},Uz ds=true→(ZI ds).cells=ds
 | [],_=>rfl
 | [x],h=>by cases x<;>first | rfl | cases h
 | _::_::_,_=>rfl
def xM:FC→FC→Bool
 | .p i,.p j=>Id.beq i j
 | .h,.h=>true
 | _,_=>false
def KS:List FC→List FC→Bool
 | [],[]=>true
 | a::l,b::m=>(match xM a b with
  | true=>KS l m
  | false=>false)
 | _,_=>false
theorem Gp:∀{l m:List FC},KS l m=true→l=m
 | [],[],_=>rfl
 | a::l,b::m,h=>by
  unfold KS at h
  split at h
  ·rename_i hb
   rw[Gp h]
   unfold xM at hb
   split at hb
   ·rw[Id.beq_iff.1 hb]
   ·rfl
   ·cases hb
  ·cases h
 | [],_::_,h=>by cases h
 | _::_,[],h=>by cases h
def xN (f:Nat):TypeId:=100000+f
def ZJ (x:AV) (h:Heap) (K:Id→Nat→List FC→List D→Option γ):Option γ:=
 match x with
 | .v (.c (.ow id))=>(match h id with
  | some (.fnl f cs rows)=>K id f cs rows
  | _=>none)
 | _=>none
section
variable {x:AV}{h:Heap}
theorem QN {K:Id→Nat→List FC→List D→Option γ}{P:Id→Nat→List FC→List D→Prop}(hk:∀a b c d,K a b c d=some r→P a b c d) (e:ZJ x h K=some r):withFn x h P:=by
 unfold ZJ at e
 unfold withFn
 grind
def QO (ds:Ds γ) (ti:Types) (t:TypeId) (x:AV) (h:Heap) (k:Out→Option γ):Option γ:=
 Ca ti t fun i=>match x with
 | .v (.c (.op id sz kk o))=>(match h id with
  | some (.fnl f cs rows)=>BB (Nat.beq sz 1)<| BB (Nat.beq o 0)<| BB (Nat.beq i.size 1)<| BB (AR i.desc==false)<| EJ rows kk fun d=>ds (xN f) d fun d=>k ⟨.v (.c (.fz f (fill cs d.cells))),[id],[]⟩
  | _=>none)
 | _=>none
variable {P:Out→Prop}{ti:Types}{t:TypeId}{k:Out→Option γ}
theorem U0 {ds:Ds γ}(hd:ds.ok) (hk:∀o,k o=some r→P o) (e:QO ds ti t x h k=some r):GZ ti t x h P:=by
 unfold QO at e
 unfold GZ
 refine Ab (fun i e=>?_) e
 split at e
 ·split at e
  ·rename_i hi
   simp only[hi]
   refine AN (AN (AN (AN fun e=>?_))) e
   obtain⟨d,h1,e⟩:=Ed e
   exact⟨d,h1,hk _ (hd _ _ _ _ e)⟩
  ·cases e
 ·cases e
def MQ (ti:Types) (t:TypeId) (x i:AV) (h:Heap) (k:Out→Option γ):Option γ:=
 Nb i fun n=>Ca ti t fun q=>match q.desc with
 | .slice e=>Ca ti e fun j=>ZJ x h fun id _ _ rows=>BB (Nat.beq j.size 1)<| Bs (0≤n∧n.toNat<rows.length) (k ⟨.v (.c (.op id 1 n.toNat 0)),[id],[]⟩)
 | _=>none
variable {M:Au}
theorem Su {i:AV}(hk:∀o,k o=some r→P o) (e:MQ ti t x i h k=some r):FR M ti t x i h P:=by
 unfold MQ at e
 unfold FR
 refine Fy (fun _ n e=>Ab (fun q e=>?_) e) e
 split at e
 ·rename_i hq
  simp only[hq]
  refine Ab (fun j e=>QN (fun id _ _ rows e=>AN (fun e=>?_) e) e) e
  obtain⟨h1,e⟩:=Bp e
  exact⟨(M.lock_iff _).2 h1,hk _ e⟩
 ·cases e
def U1 (ti:Types) (t:TypeId) (x:AV) (h:Heap) (k:Out→Option γ):Option γ:=
 Ca ti t fun q=>match q.desc with
 | .slice _=>ZJ x h fun id _ _ rows=>AP rows fun z=>k ⟨.v (.d (.int .i64 z)),[id],[]⟩
 | _=>none
theorem XO (hk:∀o,k o=some r→P o) (e:U1 ti t x h k=some r):Ib M ti t x h P:=by
 unfold U1 at e
 unfold Ib
 refine Ab (fun q e=>?_) e
 split at e
 ·rename_i hq;simp only[hq];exact QN (fun id _ _ rows e=>(Ge M e).imp fun z h=>⟨h.1,hk _ h.2⟩) e
 ·cases e
def U2 (x:AV) (h:Heap) (f:Nat) (cs:List FC) (K:List Id→List D→Option γ):Option γ:=
 match x with
 | .v (.c (.nils _ _))=>K [] []
 | .v (.c (.ow i))=>(match h i with
  | some (.fnl f' cs' rows)=>BB (Nat.beq f' f)<| BB (KS cs' cs)<| K [i] rows
  | _=>none)
 | _=>none
theorem XP {f:Nat}{cs:List FC}{K:List Id→List D→Option γ}{P:List Id→List D→Prop}(hk:∀a b,K a b=some r→P a b) (e:U2 x h f cs K=some r):YK x h f cs P:=by
 unfold U2 at e
 unfold YK
 split at e
 ·exact hk _ _ e
 ·split at e
  ·rename_i hi
   obtain⟨h1,e⟩:=AG e
   obtain⟨h2,e⟩:=AG e
   simp only[hi]
   exact⟨Nat.eq_of_beq_eq_true h1,Gp h2,hk _ _ e⟩
  ·cases e
 ·cases e
def Jn (ti:Types) (t:TypeId) (x y:AV) (fresh:Nat) (h:Heap) (k:Out→Option γ):Option γ:=
 Ca ti t fun q=>match q.desc with
 | .slice e=>Ca ti e fun j=>BB (Nat.beq j.size 1)<| ZJ y h fun id f cs ys=>U2 x h f cs fun ids rows=>BB (nodupB (id::ids))<|
   DH j.bytes rows ys fun out=>k ⟨.v (.c (.ow (.loc fresh))),id::ids,Ah (id::ids)++[(.loc fresh,.fnl f cs out)]⟩
 | _=>none
theorem QP {y:AV}{fresh:Nat}(hk:∀o,k o=some r→P o) (e:Jn ti t x y fresh h k=some r):EZ M ti t x y fresh h P:=by
 unfold Jn at e
 unfold EZ
 refine Ab (fun q e=>?_) e
 split at e
 ·rename_i hq
  simp only[hq]
  refine Ab (fun j e=>AN (fun e=>QN (fun id f cs ys e=>XP (fun ids rows e=>AN (fun e=>?_) e) e) e) e) e
  obtain⟨out,h1,h2,e⟩:=Gf e
  exact⟨(M.lock_iff _).2 h1,out,h2,hk _ e⟩
 ·cases e
def Vt (f:Nat) (cs:List FC):List CV→(List D→Option γ)→Option γ
 | [],k=>k []
 | c::l,k=>match c with
  | .fz g ps=>BB (Nat.beq g f)<| BB (KS (QL ps) cs)<| BB (noH ps)<| BB (Uz (QM ps))<| Vt f cs l fun rows=>k (ZI (QM ps)::rows)
  | _=>none
theorem Sv {f:Nat}{cs:List FC}:∀{l:List CV}{k:List D→Option γ},Vt f cs l k=some r→∃rows:List D,l=rows.map (fun r:D=>CV.fz f (fill cs r.cells))∧k rows=some r
 | [],_,e=>⟨[],rfl,e⟩
 | c::l,k,e=>by
  unfold Vt at e
  split at e
  ·rename_i g ps
   obtain⟨h1,e⟩:=AG e
   obtain⟨h2,e⟩:=AG e
   obtain⟨h3,e⟩:=AG e
   obtain⟨h4,e⟩:=AG e
   obtain⟨rows,hr,e⟩:=Sv e
   refine⟨_,?_,e⟩
   rw[List.map_cons,hr,KR h4,←Gp h2,K8 h3,Nat.eq_of_beq_eq_true h1]
  ·cases e
def E8 (ti:Types) (s:AL) (t:TypeId) (len:Nat) (parts:List (Nat×Operand)) (fresh:Nat) (k:Out→Option γ):Option γ:=
 Ca ti t fun q=>match q.desc with
 | .slice e=>Ca ti e fun j=>BB (Nat.ble (len*j.size) 16777216)<| BB (Nat.beq parts.length len)<| BB (Nat.blt 0 j.size)<| FY ti s e j.size 0 parts fun xs=>
   BB (Nat.ble len maxLen)<| BB (Nat.beq j.size 1)<| (match xs with
   | .fz f ps::l=>Vt f (QL ps) (.fz f ps::l) fun rows=>k ⟨.v (.c (.ow (.loc fresh))),[],[(.loc fresh,.fnl f (QL ps) rows)]⟩
   | _=>none)
 | _=>none
theorem Jo {s:AL}{len:Nat}{parts:List (Nat×Operand)}{fresh:Nat}(hk:∀o,k o=some r→P o) (e:E8 ti s t len parts fresh k=some r):DX ti s t len parts fresh P:=by
 unfold E8 at e
 unfold DX
 refine Ab (fun q e=>?_) e
 split at e
 ·rename_i hq
  simp only[hq]
  refine Ab (fun j e=>AN (AN (AN fun e=>Ex (fun xs e=>?_) e)) e) e
  refine AN (AN fun e=>?_) e
  split at e
  ·obtain⟨rows,hr,e⟩:=Sv e
   grind
  ·cases e
 ·cases e
def MR (ti:Types) (t:TypeId) (x i:AV) (k:Out→Option γ):Option γ:=
 Nb i fun n=>Ca ti t fun q=>match q.desc with
 | .array len e=>Ca ti e fun j=>(match x with
  | .v (.c (.ptr id o))=>Bs (0≤n∧n<len) (k ⟨.v (.c (.ap id o j.size n.toNat 0)),[],[]⟩)
  | _=>none)
 | _=>none
theorem Sx {i:AV}(hk:∀o,k o=some r→P o) (e:MR ti t x i k=some r):ER ti t x i P:=by
 unfold MR at e
 unfold ER
 refine Fy (fun _ n e=>Ab (fun q e=>?_) e) e
 split at e
 ·rename_i hq
  simp only[hq]
  refine Ab (fun j e=>?_) e
  split at e
  ·obtain⟨h1,e⟩:=Bp e
   simp_all
  ·cases e
 ·cases e
def Ej:List Nat→Nat→Bool
 | [],_=>false
 | a::l,k=>match Nat.beq k a with
  | true=>true
  | false=>Ej l k
theorem Vu:∀{l:List Nat}{k:Nat},Ej l k=true→k∈l
 | a::l,k,h=>by
  unfold Ej at h
  split at h
  ·simp_all
  ·exact List.mem_cons_of_mem _ (Vu h)
def oW (f j:Nat):List (Nat×List Nat)→List (Nat×List Nat)
 | []=>[(f,[j])]
 | (g,l)::r=>match Nat.beq f g with
  | true=>(g,l++[j])::r
  | false=>(g,l)::oW f j r
def ZK:Nat→List CV→List (Nat×List Nat)→List (Nat×List Nat)
 | _,[],a=>a
 | j,c::cs,a=>match c with
  | .fn f _=>ZK (j+1) cs (oW f j a)
  | _=>ZK (j+1) cs a
def ZL (f:Nat) (cs:List CV) (j:Nat):Bool:=
 match cs[j]? with
 | some c=>(match c with
  | .fn g l=>(match l with
   | []=>Nat.beq g f
   | _::_=>false)
  | _=>false)
 | none=>false
theorem ZM {f:Nat}{cs:List CV}{j:Nat}(h:ZL f cs j=true):cs[j]?=some (.fn f []):=by
 unfold ZL at h
 split at h
 ·rename_i c hc
  split at h
  ·split at h
   ·simp_all
   ·cases h
  ·cases h
 ·cases h
def QQ (cs:List CV) (kk:Nat):List (Nat×List Nat)→Pl→(Pl→CV→Option γ)→Option γ
 | [],_,_=>none
 | (f,l)::t,pl,K=>BB (BZ (ZL f cs) l)<| if Ej l kk=true then K (pl.at true) (.fn f [])else QQ cs kk t (pl.at false) K
theorem Ot {cs:List CV}{kk:Nat}:∀{l:List (Nat×List Nat)}{pl:Pl}{K:Pl→CV→Option γ},QQ cs kk l pl K=some r→∃p c,cs[kk]?=some c∧K p c=some r
 | [],_,_,e=>by cases e
 | (f,l)::t,pl,K,e=>by
  unfold QQ at e
  obtain⟨h1,e⟩:=AG e
  split at e
  ·rename_i hm;exact⟨_,_,ZM (BD.1 h1 _ (Vu hm)),e⟩
  ·exact Ot e
def xO:AV→Bool
 | .v (.c (.ap _ _ _ _ _))=>true
 | _=>false
def QR (ds:Ds γ) (ti:Types) (t:TypeId) (x:AV) (h:Heap) (pl:Pl) (k:Pl→Out→Option γ):Option γ:=
 Ca ti t fun i=>match x with
 | .v (.c (.ap id base sz kk o))=>(match h id with
  | some (.cells cs)=>(match JL (cs.drop base)with
   | some l=>EJ (rowsOf true sz (l.length / sz) l) kk fun d=>ds t d fun d=>BB (Nat.ble (o+i.size) d.cells.length) (k pl ⟨.v (V1.Aa (AR i.desc) (((d.cells.drop o).take i.size).map CV.d)),[id],[]⟩)
   | none=>BB (Nat.beq i.size 1)<| BB (Nat.beq sz 1)<| BB (Nat.beq base 0)<| BB (Nat.beq o 0)<| QQ cs kk (ZK 0 cs []) pl fun p c=>k p ⟨.v (V1.Aa (AR i.desc) [c]),[id],[]⟩)
  | _=>none)
 | _=>none
theorem U3 {ds:Ds γ}(hd:ds.ok) {pl:Pl}{k:Pl→Out→Option γ}(hk:∀p o,k p o=some r→P o) (e:QR ds ti t x h pl k=some r):Du ti t x h P:=by
 unfold QR at e
 unfold Du
 refine Ab (fun i e=>?_) e
 split at e
 ·split at e
  ·rename_i hi
   simp only[hi]
   split at e
   ·rename_i hl
    simp only[hl]
    obtain⟨d,h1,e⟩:=Ed e
    obtain⟨h2,e⟩:=AG (hd _ _ _ _ e)
    exact⟨_,d,Nat.ble_eq_true_of_le (Nat.div_mul_le_self _ _),h1,AA.2 ⟨h2,hk _ _ e⟩⟩
   ·rename_i hl
    simp only[hl]
    obtain⟨h1,e⟩:=AG e
    obtain⟨h2,e⟩:=AG e
    obtain⟨h3,e⟩:=AG e
    obtain⟨h4,e⟩:=AG e
    obtain⟨p,c,hc,e⟩:=Ot e
    refine AA.2 ⟨h1,AA.2 ⟨h2,c,?_,hk _ _ e⟩⟩
    simp_all
  ·cases e
 ·cases e
end
end
end Go.AM
namespace Go.AM
open Go Go.RowKit
section
variable {γ:Type}{r:γ}
def Sok (P:Program) (ti:Types) (sok:TypeId→Bool):Prop:=∀t i fs,sok t=true→ti t=some i→i.desc= .struct fs→YB P t fs.toList
structure EnvO (γ:Type) where
 ds:Ds γ
 el:oO
 own:Bool
 sok:TypeId→Bool
 call:Xo γ
 /-- Are lists that begin frozen? -/
 frz:Bool:=false
 /-- Are literal lists frozen, though others are its own? -/
 nolit:Bool:=false
 /-- Does it defer closures? -/
 cl:Bool:=false
structure EnvO.ok (P:Program) (I:Inv) (ti:Types) (E:EnvO γ):Prop where
 ds:E.ds.ok
 sok:Sok P ti E.sok
 call:E.call.ok P I
def rD (x:AV) (h:Heap):Option Id:=
 match x with
 | .v (.c (.op i _ _ _))=>(match h i with
  | some (.tree _ _ _ _ foc)=>(match foc with
   | some _=>some i
   | none=>none)
  | _=>none)
 | _=>none
def kQ (x:AV) (h:Heap) (pl:Pl):List Id×Pl:=
 match rD x h with
 | some i=>(match pl.take.w with
  | true=>(K6 h 9 i,pl.take.r)
  | false=>([],pl.take.r))
 | none=>([],pl)
def ZN (h:Heap):AV→List Id
 | .v (.c (.ow i))=>K6 h 9 i
 | .v (.c (.sl j _))=>(match h j with
  | some (.cells cs)=>Vr (K6 h 9) cs
  | _=>[])
 | _=>[]
def oX:AV→Bool
 | .v (.c (.sl _ _))=>true
 | _=>false
def kR:CV→Bool
 | .nils _ _=>true
 | _=>false
def kS (own:Bool) (ti:Types) (t:TypeId) (x y:AV) (h:Heap):Option Bool:=
 match JQ x h with
 | true=>some false
 | false=>(match ti t with
  | some q=>(match q.desc with
   | .slice e=>(match ti e with
    | some j=>(match YQ kR j.zc with
     | true=>(match KD x with
      | true=>(match KD y || oX y with
       | true=>some true
       | false=>some false)
      | false=>(match Hg x with
       | true=>(match oX y with
        | true=>some true
        | false=>(match KD y with
         | true=>some true
         | false=>(match own with
          | true=>some false
          | false=>none)))
       | false=>none))
     | false=>(match KD x || KD y with
      | true=>some true
      | false=>(match Hg x with
       | true=>(match own with
        | true=>some true
        | false=>none)
       | false=>none)))
    | none=>none)
   | _=>none)
  | none=>none)
def Vv (ti:Types) (s:AL) (e:TypeId):List (Nat×Operand)→Bool
 | []=>true
 | (_,x)::l=>(match AX ti s e x with
  | .v y=>(match y.norm with
   | .d _=>Vv ti s e l
   | _=>false)
  | _=>false)
def ZO (ti:Types) (s:AL) (e:TypeId):List (Nat×Operand)→Bool
 | []=>false
 | (_,x)::l=>(match nN (AX ti s e x)with
  | true=>true
  | false=>ZO ti s e l)
def oY (ti:Types) (t:TypeId):TypeId:=
 match ti t with
 | some q=>(match q.desc with
  | .slice e=>e
  | _=>0)
 | none=>0
def Jp (ti:Types) (t:TypeId) (x y:AV) (k:Out→Option γ):Option γ:=
 Ca ti t fun q=>match q.desc with
 | .slice e=>Ca ti e fun j=>BB (Nat.blt 0 j.size)<| qX y fun ag sz ys=>BB (AR j.desc==ag)<| BB (Nat.beq sz j.size)<|
  (match x with
  | .v (.c (.nils _ _))=>DH j.bytes [] ys fun out=>k ⟨.v (.d (.list (AR j.desc) j.size out)),[],[]⟩
  | .v (.c (.tl ag' sz' rows))=>BB (AR j.desc==ag')<| BB (Nat.beq sz' j.size)<| DH j.bytes rows ys fun out=>k ⟨.v (.d (.list (AR j.desc) j.size out)),[],[]⟩
  | _=>none)
 | _=>none
theorem QS {M:Au}{ti:Types}{t:TypeId}{x y:AV}{fresh:Nat}{h:Heap}{k:Out→Option γ}{P:Out→Prop}(hk:∀o,k o=some r→P o) (e:Jp ti t x y k=some r):FG M ti t x y fresh h P:=by
 unfold Jp at e
 unfold FG
 refine Ab (fun q e=>?_) e
 split at e
 ·rename_i hq
  simp only[hq]
  refine Ab (fun j e=>AN (fun e=>MF (fun ag sz ys e=>AN (AN fun e=>?_) e) e) e) e
  split at e
  ·obtain⟨out,h1,h2,e⟩:=Gf e
   exact⟨(M.lock_iff _).2 h1,out,h2,false,hk _ e⟩
  ·refine AN (AN fun e=>?_) e
   obtain⟨out,h1,h2,e⟩:=Gf e
   exact⟨(M.lock_iff _).2 h1,out,h2,false,hk _ e⟩
  ·cases e
 ·cases e
def rE (ti:Types) (t:TypeId):Bool:=
 match ti t with
 | some q=>(match q.desc with
  | .array _ _=>true
  | _=>false)
 | none=>false
def HV (E:EnvO γ) (ti:Types) (o:Oper) (fresh:Nat) (s:AL) (h:Heap) (pl:Pl) (k:Pl→Out→Option γ):Option γ:=
 match o.op with
 | .load t x=>(match PS (AX ti s 0 x)with
  | true=>(match JQ (AX ti s 0 x) h with
   | true=>Sm E.ds E.el ti t (AX ti s 0 x) h (k pl)
   | false=>(match KC (AX ti s 0 x) h with
    | true=>QO E.ds ti t (AX ti s 0 x) h (k pl)
    | false=>Ix h (kQ (AX ti s 0 x) h pl).1 (fun h' k'=>P5 E.ds E.el ti t (AX ti s 0 x) fresh h' pl (fun _=>k')) (k (kQ (AX ti s 0 x) h pl).2)))
  | false=>BB (C6 (Rd (AX ti s 0 x) h))<| (match xO (AX ti s 0 x)with
   | true=>QR E.ds ti t (AX ti s 0 x) h pl k
   | false=>Ps ti t (AX ti s 0 x) h (k pl)))
 | .store t x y=>(match PS (AX ti s 0 x)with
  | true=>(match JQ (AX ti s 0 x) h with
   | true=>Om E.ds E.el ti t (AX ti s 0 x) (AX ti s t y) h (k pl)
   | false=>Ix h (kQ (AX ti s 0 x) h pl).1 (fun h' k'=>ML E.ds E.el ti t (AX ti s 0 x) (AX ti s t y) fresh h' pl (fun _=>k')) (k (kQ (AX ti s 0 x) h pl).2))
  | false=>BB (C6 (Rd (AX ti s 0 x) h))<| Pt ti t (AX ti s 0 x) (AX ti s t y) h (k pl))
 | .fieldAddr t x f=>(match PS (AX ti s 0 x)with
  | true=>(match JQ (AX ti s 0 x) h with
   | true=>Jj ti t (AX ti s 0 x) f h (k pl)
   | false=>MM ti t (AX ti s 0 x) f h (k pl))
  | false=>Pu ti t (AX ti s 0 x) f (k pl))
 | .indexAddr t x i=>(match PS (AX ti s t x)with
  | true=>(match JQ (AX ti s t x) h with
   | true=>Jk ti t (AX ti s t x) (AX ti s 3 i) h (k pl)
   | false=>(match KC (AX ti s t x) h with
    | true=>MQ ti t (AX ti s t x) (AX ti s 3 i) h (k pl)
    | false=>MN ti t (AX ti s t x) (AX ti s 3 i) h (k pl)))
  | false=>(match pl.take.w&&rE ti t with
   | true=>MR ti t (AX ti s t x) (AX ti s 3 i) (k pl.take.r)
   | false=>Pv E.ds ti t (AX ti s t x) (AX ti s 3 i) (k pl)))
 | .nilCheck x=>BB (C6 (PS (AX ti s 0 x)))<| (match AX ti s 0 x with
  | .v (.c (.ptr i q))=>k pl ⟨.v (.c (.ptr i q)),[],[]⟩
  | _=>none)
 | .buildSlice t len parts=>(match nI ti s parts.toList with
  | true=>E8 ti s t len parts.toList fresh (k pl)
  | false=>(match Vv ti s (oY ti t) parts.toList with
  | true=>(match (E.own&&C6 E.nolit)&&C6 (ZO ti s (oY ti t) parts.toList)with
   | true=>E6 ti s t len parts.toList fresh h (k pl)
   | false=>Fz ti s t len parts.toList (k pl))
  | false=>E7 ti s t len parts.toList fresh (k pl)))
 | .slice t x lo hi mx=>BB (C6 (PS (AX ti s t x)))<| QG ti s t (AX ti s t x) lo hi mx (k pl)
 | .makeSlice t x y=>Uu E.own ti t (AX ti s 3 x) (AX ti s 3 y) fresh (k pl)
 | .lookup t x y ok=>(match PS (AX ti s t x)with
  | true=>BB (C6 (YI (AX ti s t x) h))<| Jl E.ds ti t (AX ti s t x) (AX ti s 0 y) ok h pl k
  | false=>BB (C6 (vB (AX ti s t x)))<| QH ti t (AX ti s t x) ok (k pl))
 | .mapUpdate t x y z=>BB (C6 (YI (AX ti s t x) h))<| HJ ti t (AX ti s t x) (AX ti s 0 y) (AX ti s 0 z) h (k pl)
 | .insert t x y z=>HJ ti t (AX ti s t x) (AX ti s 0 y) (AX ti s 0 z) h (k pl)
 | .makeMap t rm=>(match rm with
  | none=>(match YJ ti t with
   | true=>none
   | false=>(match OL ti t with
    | true=>none
    | false=>Oo ti t fresh (k pl)))
  | some _=>none)
 | .binOp op t x y _=>(match YC (AX ti s t x)with
  | true=>none
  | false=>(match PS (AX ti s t x)with
   | true=>none
   | false=>Ul ti op t (AX ti s t x) (AX ti s t y) pl k))
 | .convert a b x=>(match YD (AX ti s a x)with
  | true=>Jd ti a b (AX ti s a x) (k pl)
  | false=>none)
 | .pick c a b=>uQ (AX ti s 0 c) fun q=>if q=true then k (pl.at true) ⟨AX ti s o.type a,[],[]⟩else k (pl.at false) ⟨AX ti s o.type b,[],[]⟩
 | .index t x i=>ZE E.ds ti t (AX ti s t x) (AX ti s 3 i) (k pl)
 | .move x=>k pl ⟨AX ti s o.type x,[],[]⟩
 | .assign x=>k pl ⟨AX ti s o.type x,[],[]⟩
 | .alloc t=>Ca ti t fun i=>k pl ⟨ptrTo fresh,[],[(.loc fresh,.cells i.zc)]⟩
 | .box t x=>(match AX ti s t x with
  | .v y=>k pl ⟨ptrTo fresh,[],[(.loc fresh,.cells y.cells)]⟩
  | _=>none)
 | .unOp op _ x=>qZ op (AX ti s o.type x) (k pl)
 | .makeFunc fn first captured=>(match fn,first.toList with
  | .func f,[]=>(match Ch (captured.toList.map (AX ti s 0))with
   | some l=>k pl ⟨.v (.c (.fn f l)),[],[]⟩
   | none=>none)
  | .func f,[x]=>(match captured.toList,AX ti s 0 x with
   | [],.v (.c (.ptr i 0))=>k pl ⟨.v (.c (.bm f i)),[],[]⟩
   | _,_=>none)
  | _,_=>none)
 | .build t parts=>Px ti s t parts.toList (k pl)
 | .field t x f=>MH ti t (AX ti s t x) f (k pl)
 | .extract x i=>Jc (AX ti s 0 x) i (k pl)
 | .call c=>(match c.callee with
  | .builtin .len=>(match c.args.toList,c.argTypes.toList with
   | [x],[t]=>(match PS (AX ti s t x)with
    | true=>(match JQ (AX ti s t x) h with
     | true=>QD ti t (AX ti s t x) h (k pl)
     | false=>(match KC (AX ti s t x) h with
      | true=>U1 ti t (AX ti s t x) h (k pl)
      | false=>Uo ti t (AX ti s t x) h (k pl)))
    | false=>Y4 ti t (AX ti s t x) (k pl))
   | _,_=>none)
  | .builtin .append=>(match c.args.toList,c.argTypes.toList with
   | [x,y],[t,t']=>BB (Nat.beq t t')<| (match KC (AX ti s t' y) h with
    | true=>Jn ti t (AX ti s t x) (AX ti s t y) fresh h (k pl)
    | false=>(match (match E.frz&&Hg (AX ti s t x)with
     | true=>none
     | false=>kS E.own ti t (AX ti s t x) (AX ti s t y) h)with
    | some true=>Ix h (ZN h (AX ti s t x)++ZN h (AX ti s t y)) (fun h' k'=>Jf ti t (AX ti s t x) (AX ti s t y) fresh h' k') (k pl)
    | some false=>Jg ti t (AX ti s t x) (AX ti s t y) fresh h (k pl)
    | none=>BB (C6 (YO (AX ti s t' y)))<| Jp ti t (AX ti s t x) (AX ti s t y) (k pl)))
   | _,_=>none)
  | _=>none)
 | _=>none
theorem FZ {M:Au}{E:EnvO γ}{ti:Types}(hE:E.ok M.P M.I ti) {o:Oper}{fresh:Nat}{s:AL}{h:Heap}{pl:Pl}{k:Pl→Out→Option γ}{P:Out→Prop}(hk:∀p o,k p o=some r→P o) (e:HV E ti o fresh s h pl k=some r):DZ M ti o fresh s h P:=by
 have dsok:=hE.ds
 unfold HV at e
 unfold DZ
 split at e<;>rename_i ho<;>first | (cases e;done) | simp only[ho]
 ·split at e
  ·rename_i h1
   split at e
   ·rename_i h2;simp only[h1,h2];exact Sp dsok (hk _) e
   ·rename_i h2
    simp only[h1,h2]
    split at e
    ·rename_i h3;simp only[h3];exact U0 dsok (hk _) e
    rename_i h3
    simp only[h3]
    exact Gn (F:=fun h'=>loadT ti _ _ fresh h') (hk _) (fun h' k' P' hk' e=>Un dsok (fun _=>hk') e) e
  ·rename_i h1
   obtain⟨h3,e⟩:=AG e
   simp only[h1,E5 h3]
   show Af M ti o fresh s h _
   unfold Af
   simp only[ho]
   split at e
   ·exact U3 dsok hk e
   ·exact Oh (hk _) e
 ·split at e
  ·rename_i h1
   split at e
   ·rename_i h2;simp only[h1,h2];exact QA dsok (hk _) e
   ·rename_i h2
    simp only[h1,h2]
    exact Gn (F:=fun h'=>storeT ti _ _ _ fresh h') (hk _) (fun h' k' P' hk' e=>Si dsok (fun _=>hk') e) e
  ·rename_i h1
   obtain⟨h3,e⟩:=AG e
   simp only[h1,E5 h3]
   show Af M ti o fresh s h _
   unfold Af
   simp only[ho]
   exact Ud (hk _) e
 ·split at e
  ·rename_i h1
   split at e
   ·rename_i h2;simp only[h1,h2];exact QB (hk _) e
   ·rename_i h2;simp only[h1,h2];exact Sk (hk _) e
  ·rename_i h1
   simp only[h1]
   show Af M ti o fresh s h _
   unfold Af
   simp only[ho]
   exact Ue (hk _) e
 ·split at e
  ·rename_i h1
   split at e
   ·rename_i h2;simp only[h1,h2];exact QC (hk _) e
   ·rename_i h2
    simp only[h1,h2]
    split at e
    ·rename_i h3;simp only[h3];exact Su (hk _) e
    ·rename_i h3;simp only[h3];exact Sl (hk _) e
  ·rename_i h1
   simp only[h1]
   show Af M ti o fresh s h _
   unfold Af
   simp only[ho]
   split at e
   ·exact Sx (hk _) e
   ·exact Uf dsok (hk _) e
 ·obtain⟨h3,e⟩:=AG e
  simp only[E5 h3]
  show Af M ti o fresh s h _
  unfold Af
  grind
 ·split at e
  ·rename_i h3;simp only[h3];exact Jo (hk _) e
  rename_i h3
  simp only[h3]
  split at e
  ·split at e
   ·refine⟨true,[],?_⟩
    show En _ _ _ _ _ _ _ _
    exact Jh (fun o e=>by simpa using hk _ _ e) e
   ·refine⟨false,?_⟩
    show Af M ti o fresh s h _
    unfold Af
    simp only[ho]
    exact⟨true,Ke (hk _) e⟩
  ·refine⟨false,?_⟩
   show Af M ti o fresh s h _
   unfold Af
   simp only[ho]
   exact⟨false,Ji (hk _) e⟩
 ·obtain⟨h3,e⟩:=AG e
  simp only[E5 h3]
  show Af M ti o fresh s h _
  unfold Af
  simp only[ho]
  exact Uw (hk _) e
 ·exact XN (hk _) e
 ·split at e
  ·rename_i h1
   obtain⟨h3,e⟩:=AG e
   simp only[h1,E5 h3]
   exact QE dsok hk e
  ·rename_i h1
   obtain⟨h3,e⟩:=AG e
   simp only[h1,E5 h3]
   show Af M ti o fresh s h _
   unfold Af
   simp only[ho]
   exact Ux (hk _) e
 ·obtain⟨h3,e⟩:=AG e
  simp only[E5 h3]
  exact Iy (hk _) e
 ·exact Iy (hk _) e
 ·split at e
  ·split at e
   ·cases e
   ·rename_i h3
    split at e
    ·cases e
    ·rename_i h4
     simp only[h3,h4]
     exact QF (hk _) e
  ·cases e
 ·split at e
  ·cases e
  ·rename_i h1
   split at e
   ·cases e
   ·rename_i h2
    simp only[h1,h2]
    show Af M ti o fresh s h _
    unfold Af
    simp only[ho]
    exact XI hk e
 ·split at e
  ·rename_i h1
   simp only[h1]
   show Af M ti o fresh s h _
   unfold Af
   simp only[ho]
   exact Pz (hk _) e
  ·cases e
 ·show Af M ti o fresh s h _
  unfold Af
  simp only[ho]
  refine qY (fun q e=>?_) e
  cases q with
  | true=>rw[if_pos rfl]at e;exact hk _ _ e
  | false=>rw[if_neg Bool.false_ne_true]at e;exact hk _ _ e
 ·show Af M ti o fresh s h _
  unfold Af
  simp only[ho]
  exact ZF dsok (hk _) e
 ·show Af M ti o fresh s h _
  unfold Af
  grind
 ·show Af M ti o fresh s h _
  unfold Af
  grind
 ·show Af M ti o fresh s h _
  unfold Af
  simp only[ho]
  exact Ab (fun _ e=>hk _ _ e) e
 ·show Af M ti o fresh s h _
  unfold Af
  simp only[ho]
  split at e
  ·rename_i hy;simp only[hy,DL];exact hk _ _ e
  ·cases e
 ·show Af M ti o fresh s h _
  unfold Af
  simp only[ho]
  exact kK (hk _) e
 ·show Af M ti o fresh s h _
  unfold Af
  grind
 ·show Af M ti o fresh s h _
  unfold Af
  simp only[ho]
  exact Ug (hk _) e
 ·show Af M ti o fresh s h _
  unfold Af
  simp only[ho]
  exact Sa (hk _) e
 ·show Af M ti o fresh s h _
  unfold Af
  simp only[ho]
  exact Py (hk _) e
 ·split at e
  ·rename_i hcal
   simp only[hcal]
   split at e
   ·rename_i h1 h2
    simp only[h1,h2]
    split at e
    ·rename_i h3
     split at e
     ·rename_i h4;simp only[h3,h4];exact Uv (hk _) e
     ·rename_i h4
      simp only[h3,h4]
      split at e
      ·rename_i h5;simp only[h5];exact XO (hk _) e
      rename_i h5
      simp only[h5]
      exact⟨false,XJ (hk _) e⟩
    ·rename_i h3
     simp only[h3]
     show Af M ti o fresh s h _
     unfold Af
     simp only[ho,hcal,h1,h2]
     exact Y5 (hk _) e
   ·cases e
  ·rename_i hcal
   simp only[hcal]
   split at e
   ·rename_i h1 h2
    simp only[h1,h2]
    obtain⟨h4,e⟩:=AG e
    split at e
    ·rename_i h3;simp only[h3];exact AA.2 ⟨h4,QP (hk _) e⟩
    rename_i h3
    simp only[h3]
    split at e
    ·refine⟨true,AA.2 ⟨h4,?_⟩⟩
     exact⟨true,Gn (F:=fun h'=>IW M ti _ _ _ fresh h') (hk _) (fun h' k' P' hk' e=>P6 hk' e) e⟩
    ·refine⟨true,AA.2 ⟨h4,?_⟩⟩
     exact⟨false,P7 (hk _) e⟩
    ·obtain⟨h5,e⟩:=AG e
     refine⟨false,?_⟩
     simp only[E5 h5]
     show Af M ti o fresh s h _
     unfold Af
     simp only[ho,hcal,h1,h2]
     exact AA.2 ⟨h4,QS (hk _) e⟩
   ·cases e
  ·cases e
end
end Go.AM
namespace Go.AM
open Go Go.RowKit
section
variable {γ:Type}{r:γ}
def told (σ:St) (c:Operand) (q:Bool):St:=
 match c with
 | .tmp t=>⟨Sg σ.slots t (.v (.d (.bool q))),σ.heap,σ.next⟩
 | _=>σ
theorem Vw {σ:St}{ti:Types}{c:Operand}{q:Bool}(h:AX ti (AQ σ.slots) 0 c= .v (.d (.bool q))):told σ c q=σ:=by
 unfold told
 split
 ·rw[P4 h]
 ·rfl
def Bd:List Bool→Nat
 | []=>1
 | b::t=>(match b with
  | true=>2*Bd t+1
  | false=>2*Bd t)
theorem HM:∀t:List Bool,1≤Bd t
 | []=>Nat.le_refl _
 | b::t=>by have:=HM t;cases b<;>simp only[Bd]<;>omega
theorem Fa:∀{s t:List Bool},Bd s=Bd t→s=t
 | [],[],_=>rfl
 | [],b::t,h=>by have:=HM t;cases b<;>simp only[Bd]at h<;>omega
 | b::s,[],h=>by have:=HM s;cases b<;>simp only[Bd]at h<;>omega
 | a::s,b::t,h=>by
  cases a<;>cases b<;>simp only[Bd]at h
  ·rw[Fa (s:=s) (t:=t) (by omega)]
  ·omega
  ·omega
  ·rw[Fa (s:=s) (t:=t) (by omega)]
def Ou:Nat→Nat→List Bool
 | 0,_=>[]
 | f+1,p=>match Nat.ble p 1 with
  | true=>[]
  | false=>Nat.beq (p % 2) 1::Ou f (p / 2)
variable {M:Au}{ti:Types}{nt:Nat}{body:Code}
end
end Go.AM
namespace Go.AM
open Go Go.RowKit
def opened (σ:St) (i:Id) (kd:Kd) (ag:Bool) (sz:Nat) (rows:List D) (k:Nat) (r:D):St:=
 ⟨σ.slots,Cb σ.heap ((i,.tree kd ag sz rows (some (k,CK σ.next 0 r.cells)))::CA σ.next 0 r.cells),σ.next+32⟩
theorem XQ {σ:St}(i:Id) {kd:Kd}(hkd:kd.HA=false) {ag:Bool}{sz:Nat}{rows:List D}(hi:AJ σ.heap i=some (.tree kd ag sz rows none)) {k:Nat}{r:D}(hr:rows[k]?=some r) (hn:Nat.ble r.cells.length 32=true):
  BM σ (opened σ i kd ag sz rows k r):=by
 rintro C a w ⟨g,R⟩
 obtain⟨g',R',_⟩:=R.iC hkd hi hr (fresh:=σ.next) (fun c _=>Nat.le_add_right _ _) (Nat.le_of_ble_eq_true hn)
 refine⟨g',?_⟩
 have R2:=R'.Ae (F':=fun n=>σ.next+32≤n) (fun n hn=>⟨by omega,by omega⟩)
 have e:AJ (opened σ i kd ag sz rows k r).heap=Ay (AK (AJ σ.heap) i (.tree kd ag sz rows (some (k,CK σ.next 0 r.cells)))) (CA σ.next 0 r.cells):=by
  simp only[opened,CZ]
  rfl
 show AY C _ (AQ σ.slots) (AJ (opened σ i kd ag sz rows k r).heap) g' a w
 rw[e]
 exact R2
end Go.AM
namespace Go.AM
open Go Go.RowKit
noncomputable section
variable {γ:Type}{r:γ}
def MS (E:EnvO γ) (ti:Types) (o:Oper) (fresh:Nat) (σ:St) (pl:Pl) (K:Pl→St→Option γ):Option γ:=
 match YR ti o (AQ σ.slots) (AJ σ.heap)with
 | none=>HV E ti o fresh (AQ σ.slots) (AJ σ.heap) pl fun p out=>K p ⟨Ck σ.slots o.dst out.val,Cb σ.heap out.wr,σ.next⟩
 | some b=>(match pl.take.gs with
  | []=>(match b with
   | false=>HV E ti o fresh (AQ σ.slots) (AJ σ.heap) pl.take.r fun p out=>K p ⟨Ck σ.slots o.dst out.val,Cb σ.heap out.wr,σ.next⟩
   | true=>HV E ti o fresh (AQ σ.slots) (AJ σ.heap) pl.take.r fun p out=>K p ⟨Ck σ.slots o.dst out.val,Cb σ.heap out.wr,fresh⟩)
  | g::gs=>DA (g::gs) ⟨σ.slots,σ.heap,fresh⟩ fun σ'=>BB (Nat.beq σ'.next fresh)<| HV E ti o fresh (AQ σ'.slots) (AJ σ'.heap) pl.take.r fun p out=>K p ⟨Ck σ'.slots o.dst out.val,Cb σ'.heap out.wr,σ'.next⟩)
def QT (E:EnvO γ) (ti:Types) (nt:Nat) (o:Oper) (fresh:Nat) (σ:St) (pl:Pl) (K:Pl→St→Option γ):Option γ:=
 BB (P3 o)<| BB (Y9 nt o.dst)<| (match Pd ti o (AQ σ.slots) (AJ σ.heap)with
  | some (e,rows)=>BB (Kq ti o)<| Wu rows (K (pl.at true) ⟨Ck σ.slots o.dst (.v (.d (.bool e))),σ.heap,σ.next⟩) (K (pl.at false) ⟨Ck σ.slots o.dst (.v (.d (.bool (C6 e)))),σ.heap,σ.next⟩)
  | none=>(match o.op with
   | .call c=>(match c.callee with
    | .value f=>(match pl.take.gs with
     | []=>K7 E.call ti c f pl.take.w pl.take.l fresh (AQ σ.slots) (AJ σ.heap) pl.take.r fun p out=>K p ⟨Ck σ.slots o.dst out.val,Cb σ.heap out.wr,σ.next⟩
     | g::gs=>QK E.call ti o c f (g::gs) fresh σ pl.take.r K)
    | _=>MS E ti o fresh σ pl K)
   | _=>MS E ti o fresh σ pl K))
section
variable {o:Oper}{fresh:Nat}{σ:St}{pl:Pl}{K:Pl→St→Option γ}{P:St→Prop}
theorem Ov {M:Au}{E:EnvO γ}{ti:Types}(hE:E.ok M.P M.I ti) (hK:∀p σ,K p σ=some r→P σ) (e:MS E ti o fresh σ pl K=some r):
  match YR ti o (AQ σ.slots) (AJ σ.heap)with
    | none=>DZ M ti o fresh (AQ σ.slots) (AJ σ.heap) fun out=>P ⟨Ck σ.slots o.dst out.val,Cb σ.heap out.wr,σ.next⟩
    | some b=>match b with
     | true=>M.lock fun _=>Wg M ti o fresh σ P
     | false=>M.lock fun _=>vF M ti o fresh σ P∨Wg M ti o fresh σ P:=by
 unfold MS at e
 have ghs:∀{g:Gh} {gs:List Gh} {p:Pl},(DA (g::gs) ⟨σ.slots,σ.heap,fresh⟩ fun σ'=>BB (Nat.beq σ'.next fresh)<| HV E ti o fresh (AQ σ'.slots) (AJ σ'.heap) p fun p out=>K p ⟨Ck σ'.slots o.dst out.val,Cb σ'.heap out.wr,σ'.next⟩)=some r→Wg M ti o fresh σ P:=by
  intro g gs p e
  obtain⟨σ',hw,e⟩:=Bx (Cw (P:=fun σ'=>_=some r) (fun σ h=>h) e)
  obtain⟨h1,e⟩:=AG e
  exact⟨σ',hw,Nat.eq_of_beq_eq_true h1,FZ hE (fun p out h=>hK _ _ h) e⟩
 split at e
 ·rename_i hg
  try rw[hg]
  exact FZ hE (fun p out h=>hK _ _ h) e
 ·rename_i b hg
  try rw[hg]
  split at e
  ·cases b with
   | false=>exact (M.lock_iff _).2 (.inl (FZ hE (fun p out h=>hK _ _ h) e))
   | true=>exact (M.lock_iff _).2 ⟨⟨σ.slots,σ.heap,fresh⟩,fun _ _ _ h=>h,rfl,FZ hE (fun p out h=>hK _ _ h) e⟩
  ·cases b with
   | false=>exact (M.lock_iff _).2 (.inr (ghs e))
   | true=>exact (M.lock_iff _).2 (ghs e)
theorem U4 {M:Au}{E:EnvO γ}{ti:Types}(hE:E.ok M.P M.I ti) {nt:Nat}(hK:∀p σ,K p σ=some r→P σ) (e:QT E ti nt o fresh σ pl K=some r):Lm M ti nt o fresh σ P:=by
 unfold QT at e
 obtain⟨h1,e⟩:=AG e
 obtain⟨h2,e⟩:=AG e
 unfold Lm
 refine Ol h1 (K5 h2 ?_)
 split at e
 ·rename_i b rows hn
  rw[hn]
  obtain⟨h3,e⟩:=AG e
  obtain⟨g0,g1⟩:=Ym e
  exact AA.2 ⟨h3,fun _=>hK _ _ g0,fun hr=>⟨hK _ _ (g1 hr),hK _ _ g0⟩⟩
 ·rename_i hn
  rw[hn]
  simp only[]
  split at e
  ·rename_i c ho
   split at e
   ·rename_i f hf
    have hv:Dn o=true:=by unfold Dn;simp_all
    rw[hv]
    split at e
    ·exact (M.lock_iff _).2 (.inl (MP hE.call ho hf (fun p out h=>hK _ _ h) e))
    ·exact (M.lock_iff _).2 (.inr (.inl (Uy hE.call ho hf hK e)))
   ·rename_i hf
    have hv:Dn o=false:=by
     unfold Dn
     simp_all
    rw[hv]
    exact Ov hE hK e
  ·rename_i ho
   by_cases hp:∃x,o.op= .panic x
   ·obtain⟨x,hp⟩:=hp
    exfalso
    unfold MS at e
    have hg:YR ti o (AQ σ.slots) (AJ σ.heap)=none:=by unfold YR;rw[hp]
    rw[hg]at e
    simp only[]at e
    unfold HV at e
    simp_all
   have hv:Dn o=false:=by
    unfold Dn
    simp_all
   rw[hv]
   exact Ov hE hK e
def I0 (ops:Array Oper) (o:Oper) (σ:St) (pl:Pl) (K1 K0:Pl→St→Option γ):Option γ:=
 match o.guard with
 | none=>K1 pl σ
 | some (j,want)=>(match (ops[j]?).bind (·.dst)with
  | none=>none
  | some d=>(match AQ σ.slots d with
   | .v (.d (.bool c))=>(match want with
    | true=>if c=true then K1 (pl.at true) ⟨Sg σ.slots d (.v (.d (.bool true))),σ.heap,σ.next⟩else K0 (pl.at false) ⟨Sg σ.slots d (.v (.d (.bool false))),σ.heap,σ.next⟩
    | false=>if c=true then K0 (pl.at true) ⟨Sg σ.slots d (.v (.d (.bool true))),σ.heap,σ.next⟩else K1 (pl.at false) ⟨Sg σ.slots d (.v (.d (.bool false))),σ.heap,σ.next⟩)
   | .t []=>K0 pl σ
   | _=>none))
theorem KT {ops:Array Oper}{K1 K0:Pl→St→Option γ}{P1 P0:St→Prop}(h1:∀p,K1 p σ=some r→P1 σ) (h0:∀p,K0 p σ=some r→P0 σ) (e:I0 ops o σ pl K1 K0=some r):guarded ops o σ P1 P0:=by
 unfold I0 at e
 unfold guarded
 split at e
 ·grind
 ·rename_i j want hg
  simp only[hg]
  split at e
  ·cases e
  ·rename_i d hd
   simp only[hd]
   split at e
   ·rename_i c hs
    simp only[hs]
    cases want<;>cases c<;>simp only[if_true,Bool.false_eq_true,if_false,P4 hs]at e ⊢
    ·exact h1 _ e
    ·exact h0 _ e
    ·exact h0 _ e
    ·exact h1 _ e
   ·grind
   ·cases e
def QU (E:EnvO γ) (ti:Types) (x:Operand) (fresh:Nat) (σ:St) (K:St→Option γ):Option γ:=
 BB E.cl<| match AX ti (AQ σ.slots) 0 x,AQ σ.slots DT with
 | .v (.c (.fz f ps)),.df g cs rows=>BB (Nat.beq f g)<| BB (KS (QL ps) cs)<| BB (noH ps)<| BB (Uz (QM ps))<| K ⟨Ck σ.slots (some DT) (.df g cs (ZI (QM ps)::rows)),σ.heap,fresh⟩
 | _,_=>none
theorem U5 {M:Au}{E:EnvO γ}(hcl:E.cl=true→M.cl=true) {ti:Types}{x:Operand}{K:St→Option γ}(hK:∀σ,K σ=some r→P σ) (e:QU E ti x fresh σ K=some r):Pe M ti x fresh σ P:=by
 unfold QU at e
 obtain⟨h0,e⟩:=AG e
 split at e
 ·rename_i f ps g cs rows hx hd
  obtain⟨h1,e⟩:=AG e
  obtain⟨h2,e⟩:=AG e
  obtain⟨h3,e⟩:=AG e
  obtain⟨h4,e⟩:=AG e
  refine (M.lock_iff _).2 ⟨⟨σ.slots,σ.heap,fresh⟩,BM.refl _,rfl,g,cs,rows,_,?_,hd,hcl h0,hK _ e⟩
  rw[hx,KR h4,←Gp h2,K8 h3,Nat.eq_of_beq_eq_true h1]
 ·cases e
def Jq (E:EnvO γ) (ti:Types) (nt:Nat) (ops:Array Oper) (base:Nat):List Oper→Nat→Pl→St→(Pl→St→Option γ)→Option γ
 | [],i,pl,σ,K=>K pl ⟨σ.slots,σ.heap,base+32*i⟩
 | o::l,i,pl,σ,K=>I0 ops o σ pl (fun pl σ=>match Hh o with
   | some x=>QU E ti x (base+32*i) σ fun σ2=>Jq E ti nt ops base l (i+1) pl σ2 K
   | none=>QT E ti nt o (base+32*i) σ pl fun pl σ2=>Jq E ti nt ops base l (i+1) pl σ2 K)
   (fun pl σ=>BB (Y9 nt o.dst) (Jq E ti nt ops base l (i+1) pl ⟨Ck σ.slots o.dst (.t []),σ.heap,σ.next⟩ K))
theorem HN {M:Au}{E:EnvO γ}{ti:Types}(hE:E.ok M.P M.I ti) (hcl:E.cl=true→M.cl=true) {nt:Nat}{ops:Array Oper}{base:Nat}{K:Pl→St→Option γ}{P:St→Prop}(hK:∀p σ,K p σ=some r→P σ):
  ∀(l:List Oper) (i:Nat) (pl:Pl) (σ:St),Jq E ti nt ops base l i pl σ K=some r→B8 M ti nt ops base l i σ P
 | [],_,_,_,e=>hK _ _ e
 | o::l,i,pl,σ,e=>by
  unfold Jq at e
  unfold B8
  exact KT (P1:=fun σ1=>match Hh o with
    | some x=>Pe M ti x (base+32*i) σ1 fun σ2=>B8 M ti nt ops base l (i+1) σ2 P
    | none=>Lm M ti nt o (base+32*i) σ1 fun σ2=>B8 M ti nt ops base l (i+1) σ2 P) (P0:=fun σ1=>GD nt o.dst (B8 M ti nt ops base l (i+1) ⟨Ck σ1.slots o.dst (.t []),σ1.heap,σ1.next⟩ P))
   (fun p e=>by
    split at e
    ·exact U5 hcl (fun σ2 e=>HN hE hcl hK l (i+1) _ σ2 e) e
    ·exact U4 hE (fun p σ2 e=>HN hE hcl hK l (i+1) p σ2 e) e) (fun p e=>by
    obtain⟨h1,e⟩:=AG e
    exact K5 h1 (HN hE hcl hK l (i+1) p _ e)) e
def MT (E:EnvO γ) (ti:Types) (o:Oper) (fresh:Nat) (s:AL) (h:Heap) (pl:Pl) (k:Pl→Out→Option γ):Option γ:=
 match o.op with
 | .call c=>(match c.callee with
  | .value f=>K7 E.call ti c f pl.take.w pl.take.l fresh s h pl.take.r k
  | _=>HV E ti o fresh s h pl k)
 | _=>HV E ti o fresh s h pl k
theorem Sy {M:Au}{E:EnvO γ}{ti:Types}(hE:E.ok M.P M.I ti) {s:AL}{h:Heap}{k:Pl→Out→Option γ}{P:Out→Prop}(hk:∀p o,k p o=some r→P o) (e:MT E ti o fresh s h pl k=some r):DZ M ti o fresh s h P:=by
 unfold MT at e
 split at e
 ·rename_i c ho
  split at e
  ·rename_i f hf;exact MP hE.call ho hf hk e
  ·exact FZ hE hk e
 ·exact FZ hE hk e
def I1 (E:EnvO γ) (ti:Types) (nt:Nat) (ops:Array Oper) (base:Nat):List Oper→Nat→Pl→St→List Fp→(Pl→St→List Fp→Option γ)→Option γ
 | [],i,pl,σ,fps,K=>K pl ⟨σ.slots,σ.heap,base+32*i⟩ fps
 | o::l,i,pl,σ,fps,K=>I0 ops o σ pl (fun pl σ=>BB (P3 o)<| BB (Y9 nt o.dst)<| MT E ti o (base+32*i) (AQ σ.slots) (AJ σ.heap) pl fun pl out=>
    I1 E ti nt ops base l (i+1) pl ⟨Ck σ.slots o.dst out.val,Cb σ.heap out.wr,σ.next⟩ (fps++[(out.rd,out.wr.map (·.1))]) K)
   (fun pl σ=>BB (Y9 nt o.dst) (I1 E ti nt ops base l (i+1) pl ⟨Ck σ.slots o.dst (.t []),σ.heap,σ.next⟩ (fps++[([],[])]) K))
theorem Hy {M:Au}{E:EnvO γ}{ti:Types}(hE:E.ok M.P M.I ti) {nt:Nat}{ops:Array Oper}{base:Nat}{K:Pl→St→List Fp→Option γ}{P:St→List Fp→Prop}(hK:∀p σ fps,K p σ fps=some r→P σ fps):
  ∀(l:List Oper) (i:Nat) (pl:Pl) (σ:St) (fps:List Fp),I1 E ti nt ops base l i pl σ fps K=some r→Dw M ti nt ops base l i σ fps P
 | [],_,_,_,_,e=>hK _ _ _ e
 | o::l,i,pl,σ,fps,e=>by
  unfold I1 at e
  unfold Dw
  refine KT (P1:=fun σ1=>Ep o<| GD nt o.dst<| DZ M ti o (base+32*i) (AQ σ1.slots) (AJ σ1.heap) fun out=>Dw M ti nt ops base l (i+1) ⟨Ck σ1.slots o.dst out.val,Cb σ1.heap out.wr,σ1.next⟩ (fps++[(out.rd,out.wr.map (·.1))]) P)
   (P0:=fun σ1=>GD nt o.dst (Dw M ti nt ops base l (i+1) ⟨Ck σ1.slots o.dst (.t []),σ1.heap,σ1.next⟩ (fps++[([],[])]) P)) (fun p e=>?_) (fun p e=>?_) e
  ·obtain⟨h1,e⟩:=AG e
   obtain⟨h2,e⟩:=AG e
   exact Ol h1 (K5 h2 (Sy hE (fun p out e=>Hy hE hK l (i+1) p _ _ e) e))
  ·obtain⟨h1,e⟩:=AG e
   exact K5 h1 (Hy hE hK l (i+1) p _ _ e)
abbrev QV (γ:Type):=Pl→Cm→St→Option γ
structure EnvP (γ:Type) extends EnvO γ where
 has:Nat→Bool
 rest:Nat→Tk→St→Option γ
def ZP (ds:Ds γ) (pl:Pl) (σ:St) (K:Pl→St→Option γ):Option γ:=
 match pl with
 | .o i t ty q=>(match AJ σ.heap i,AQ σ.slots t with
  | some (.tree kd ag sz rows foc),.v (.d (.int _ z))=>(match foc with
   | none=>BB (C6 kd.HA)<| EJ rows z.toNat fun d=>ds ty d fun d=>BB (Nat.ble d.cells.length 32)<| K q (opened σ i kd ag sz rows z.toNat d)
   | some _=>none)
  | _,_=>none)
 | pl=>K pl σ
theorem ZQ {ds:Ds γ}(hd:ds.ok) (e:ZP ds pl σ K=some r):∃p σ',BM σ σ'∧K p σ'=some r:=by
 unfold ZP at e
 split at e
 ·split at e
  ·rename_i hi ht
   split at e
   ·obtain⟨h1,e⟩:=AG e
    obtain⟨d,h2,e⟩:=Ed e
    obtain⟨h3,e⟩:=AG (hd _ _ _ _ e)
    exact⟨_,_,XQ _ (E5 h1) hi h2 h3,e⟩
   ·cases e
  ·cases e
 ·exact⟨_,_,BM.refl _,e⟩
def QW (E:EnvP γ) (q:Nat) (eb:Pl→St→QV γ→Option γ) (K:QV γ):QV γ:=fun pl e σ=>match e with
 | .normal=>(match E.has q with
  | true=>(match pl.take.w with
   | true=>eb pl.take.r σ K
   | false=>E.rest q pl.take σ)
  | false=>ZP E.ds pl σ fun pl σ=>eb pl σ K)
 | .exit id=>K pl (.exit id) σ
 | .ret=>K pl .ret σ
def QX (id:Nat) (K:QV γ):QV γ:=fun pl e σ=>match e with
 | .normal=>K pl .normal σ
 | .exit id'=>(match Nat.beq id' id with
  | true=>K pl .normal σ
  | false=>K pl (.exit id') σ)
 | .ret=>K pl .ret σ
def K9 (E:EnvP γ) (p:Nat) (K:QV γ):QV γ:=fun pl e σ=>match e with
 | .normal=>E.rest p pl.take σ
 | .exit id=>K pl (.exit id) σ
 | .ret=>K pl .ret σ
def Bh (E:EnvP γ) (ti:Types) (nt:Nat):Code→Nat→Pl→St→QV γ→Option γ
 | .skip,_,pl,σ,K=>K pl .normal σ
 | .region _ ops draw,_,pl,σ,K=>(match draw with
  | false=>Jq E.toEnvO ti nt ops σ.next ops.toList 0 pl σ fun pl σ'=>K pl .normal σ'
  | true=>I1 E.toEnvO ti nt ops σ.next ops.toList 0 pl σ [] fun pl σ' fps=>BB (Yf ops fps) (K pl .normal σ'))
 | .seq a b,p,pl,σ,K=>Bh E ti nt a (2*p) pl σ (QW E (2*p+1) (fun pl σ K=>Bh E ti nt b (2*p+1) pl σ K) K)
 | .cond c a b,p,pl,σ,K=>uQ (AX ti (AQ σ.slots) 0 c) fun q=>if q=true then Bh E ti nt a (2*p) (pl.at true) (told σ c true) K else Bh E ti nt b (2*p+1) (pl.at false) (told σ c false) K
 | .block id c,p,pl,σ,K=>Bh E ti nt c (2*p) pl σ (QX id K)
 | .loop _,p,pl,σ,_=>E.rest p pl.take σ
 | .exit id,_,pl,σ,K=>K pl (.exit id) σ
 | .ret,_,pl,σ,K=>K pl .ret σ
 | _,_,_,_,_=>none
def ZR (E:EnvP γ) (ti:Types) (nt:Nat) (c:Code) (p:Nat) (pl:Pl) (σ:St) (K:QV γ):Option γ:=
 match c with
 | .loop b=>Bh E ti nt b (2*p) pl σ (K9 E p K)
 | c=>Bh E ti nt c p pl σ K
def kT (E:EnvP γ) (ti:Types) (nt:Nat):Code→Nat→QV γ→Bool→Option (Code×Nat×QV γ)
 | .seq a b,p,K,d=>(match d with
  | false=>some (a,2*p,QW E (2*p+1) (fun pl σ K=>Bh E ti nt b (2*p+1) pl σ K) K)
  | true=>some (b,2*p+1,K))
 | .cond _ a b,p,K,d=>(match d with
  | false=>some (a,2*p,K)
  | true=>some (b,2*p+1,K))
 | .block id c,p,K,d=>(match d with
  | false=>some (c,2*p,QX id K)
  | true=>none)
 | .loop c,p,K,d=>(match d with
  | false=>some (c,2*p,K9 E p K)
  | true=>none)
 | _,_,_,_=>none
def DB (E:EnvP γ) (ti:Types) (nt:Nat) (body:Code) (K:QV γ):List Bool→Option (Code×Nat×QV γ)
 | []=>some (body,1,K)
 | b::t=>(match DB E ti nt body K t with
  | some x=>kT E ti nt x.1 x.2.1 x.2.2 b
  | none=>none)
def F1 (E:EnvP γ) (ti:Types) (nt:Nat) (body:Code) (K:QV γ) (way:List Bool) (pl:Pl) (σ:St):Option γ:=
 match DB E ti nt body K way with
 | some x=>ZR E ti nt x.1 x.2.1 pl σ x.2.2
 | none=>none
end
variable {M:Au}{ti:Types}{nt:Nat}{E:Nat→EnvP γ}{body:Code}{Kf:Nat→QV γ}
def rF (E:Nat→EnvP γ) (ti:Types) (nt:Nat) (body:Code) (Kf:Nat→QV γ) (r:γ) (n:Nat):Prop:=
 ∀wy tk σ,(E n).rest (Bd wy) tk σ=some r→∃m σ' way pl,m<n∧BM σ σ'∧Bd way=Bd wy∧F1 (E m) ti nt body (Kf m) way pl σ'=some r
theorem De {N:Nat}(hE:∀m,m≤N→(E m).toEnvO.ok M.P M.I ti) (hcl:∀m,(E m).cl=true→M.cl=true) (hr:∀m,m≤N→rF E ti nt body Kf r m):
  ∀(c:Code) (way:List Bool) (n:Nat) (Ko:Nat→QV γ) (KP:Cm→St→Prop),n≤N→(∀m,m≤n→DB (E m) ti nt body (Kf m) way=some (c,Bd way,Ko m))→(∀m p e σ,m≤n→Ko m p e σ=some r→KP e σ)→
   (∀pl σ,Bh (E n) ti nt c (Bd way) pl σ (Ko n)=some r→exec M ti nt (BI ti M nt) c σ KP)∧(∀pl σ,ZR (E n) ti nt c (Bd way) pl σ (Ko n)=some r→exec M ti nt (BI ti M nt) c σ KP)
 | .skip,way,n,Ko,KP,hn,h1,h2=>⟨fun pl σ e=>h2 n _ _ _ (Nat.le_refl _) e,fun pl σ e=>h2 n _ _ _ (Nat.le_refl _) e⟩
 | .exit id,way,n,Ko,KP,hn,h1,h2=>⟨fun pl σ e=>h2 n _ _ _ (Nat.le_refl _) e,fun pl σ e=>h2 n _ _ _ (Nat.le_refl _) e⟩
 | .ret,way,n,Ko,KP,hn,h1,h2=>⟨fun pl σ e=>h2 n _ _ _ (Nat.le_refl _) e,fun pl σ e=>h2 n _ _ _ (Nat.le_refl _) e⟩
 | .region id ops draw,way,n,Ko,KP,hn,h1,h2=>by
  have main:∀pl σ,Bh (E n) ti nt (.region id ops draw) (Bd way) pl σ (Ko n)=some r→exec M ti nt (BI ti M nt) (.region id ops draw) σ KP:=by
   intro pl σ e
   cases draw with
   | false=>exact HN (hE n hn) (hcl n) (fun p σ' e=>h2 n _ _ _ (Nat.le_refl _) e) _ _ _ _ e
   | true=>
    refine Hy (hE n hn) (fun p σ' fps e=>?_) _ _ _ _ _ e
    obtain⟨g1,e⟩:=AG e
    exact⟨(M.lock_iff _).2 g1,h2 n _ _ _ (Nat.le_refl _) e⟩
  exact⟨main,main⟩
 | .cond c a b,way,n,Ko,KP,hn,h1,h2=>by
  have main:∀pl σ,Bh (E n) ti nt (.cond c a b) (Bd way) pl σ (Ko n)=some r→exec M ti nt (BI ti M nt) (.cond c a b) σ KP:=by
   intro pl σ e
   have e':uQ (AX ti (AQ σ.slots) 0 c) (fun q=>if q=true then Bh (E n) ti nt a (2*Bd way) (pl.at true) (told σ c true) (Ko n)else Bh (E n) ti nt b (2*Bd way+1) (pl.at false) (told σ c false) (Ko n))=some r:=e
   show N2 (AX ti (AQ σ.slots) 0 c) _
   generalize ho:AX ti (AQ σ.slots) 0 c=x at e'
   unfold uQ at e'
   split at e'
   rotate_left
   ·cases e'
   rename_i q
   have e:(if q=true then Bh (E n) ti nt a (2*Bd way) (pl.at true) (told σ c true) (Ko n)else Bh (E n) ti nt b (2*Bd way+1) (pl.at false) (told σ c false) (Ko n))=some r:=e'
   cases q with
   | true=>
    rw[if_pos rfl,Vw ho]at e
    exact (De hE hcl hr a (false::way) n Ko KP hn (fun m hm=>by show (match DB (E m) ti nt body (Kf m) way with | some x=>_ | none=>_)=_;rw[h1 m hm];rfl) h2).1 _ σ e
   | false=>
    rw[if_neg Bool.false_ne_true,Vw ho]at e
    exact (De hE hcl hr b (true::way) n Ko KP hn (fun m hm=>by show (match DB (E m) ti nt body (Kf m) way with | some x=>_ | none=>_)=_;rw[h1 m hm];rfl) h2).1 _ σ e
  exact⟨main,main⟩
 | .block id c,way,n,Ko,KP,hn,h1,h2=>by
  have main:∀pl σ,Bh (E n) ti nt (.block id c) (Bd way) pl σ (Ko n)=some r→exec M ti nt (BI ti M nt) (.block id c) σ KP:=by
   intro pl σ e
   refine (De hE hcl hr c (false::way) n (fun m=>QX id (Ko m)) _ hn (fun m hm=>by show (match DB (E m) ti nt body (Kf m) way with | some x=>_ | none=>_)=_;rw[h1 m hm];rfl) (fun m p e σ hm he=>?_)).1 pl σ e
   cases e with
   | normal=>exact h2 m _ _ _ hm he
   | ret=>exact h2 m _ _ _ hm he
   | exit id'=>
    simp only[QX]at he
    grind
  exact⟨main,main⟩
 | .loop c,way,n,Ko,KP,hn,h1,h2=>by
  have at':∀k,k≤n→∀pl σ σ1,BM σ σ1→ZR (E k) ti nt (.loop c) (Bd way) pl σ1 (Ko k)=some r→exec M ti nt (BI ti M nt) (.loop c) σ KP:=by
   intro k hk pl σ σ1 hw e
   refine (M.lock_iff _).2 (.inl ⟨fun j σ=>j≤n∧∃pl,Bh (E j) ti nt c (2*Bd way) pl σ (K9 (E j) (Bd way) (Ko j))=some r,k,⟨σ1,hw,hk,pl,e⟩,?_⟩)
   rintro j σ2 ⟨hj,pl2,e2⟩
   refine (De hE hcl hr c (false::way) j (fun m=>K9 (E m) (Bd way) (Ko m)) _ (Nat.le_trans hj hn) (fun m hm=>by show (match DB (E m) ti nt body (Kf m) way with | some x=>_ | none=>_)=_;rw[h1 m (Nat.le_trans hm hj)];rfl) (fun m p e σ hm he=>?_)).1 pl2 σ2 e2
   cases e with
   | exit id=>exact h2 m _ _ _ (Nat.le_trans hm hj) he
   | ret=>exact h2 m _ _ _ (Nat.le_trans hm hj) he
   | normal=>
    obtain⟨m',σ',way',pl',g1,g2,g3,g4⟩:=hr m (Nat.le_trans (Nat.le_trans hm hj) hn) way _ σ he
    obtain rfl:=Fa g3
    unfold F1 at g4
    rw[h1 m' (Nat.le_trans (Nat.le_of_lt g1) (Nat.le_trans hm hj))]at g4
    exact⟨m',σ',Nat.lt_of_lt_of_le g1 hm,g2,Nat.le_trans (Nat.le_of_lt g1) (Nat.le_trans hm hj),pl',g4⟩
  refine⟨fun pl σ e=>?_,fun pl σ e=>at' n (Nat.le_refl _) pl σ σ (fun _ _ _ h=>h) e⟩
  obtain⟨m',σ',way',pl',g1,g2,g3,g4⟩:=hr n hn way _ σ e
  obtain rfl:=Fa g3
  unfold F1 at g4
  grind
 | .seq a b,way,n,Ko,KP,hn,h1,h2=>by
  have hb:∀m,m≤n→DB (E m) ti nt body (Kf m) (true::way)=some (b,2*Bd way+1,Ko m):=fun m hm=>by show (match DB (E m) ti nt body (Kf m) way with | some x=>_ | none=>_)=_;rw[h1 m hm];rfl
  have main:∀pl σ,Bh (E n) ti nt (.seq a b) (Bd way) pl σ (Ko n)=some r→exec M ti nt (BI ti M nt) (.seq a b) σ KP:=by
   intro pl σ e
   refine (M.lock_iff _).2 (.inr ⟨fun σ''=>exec M ti nt (BI ti M nt) b σ'' KP,?_,fun _ h=>h⟩)
   refine (De hE hcl hr a (false::way) n (fun m=>QW (E m) (2*Bd way+1) (fun pl σ K=>Bh (E m) ti nt b (2*Bd way+1) pl σ K) (Ko m)) _ hn (fun m hm=>by show (match DB (E m) ti nt body (Kf m) way with | some x=>_ | none=>_)=_;rw[h1 m hm];rfl) (fun m p e σ hm he=>?_)).1 pl σ e
   cases e with
   | exit id=>exact h2 m _ _ _ hm he
   | ret=>exact h2 m _ _ _ hm he
   | normal=>
    have go:∀p,Bh (E m) ti nt b (2*Bd way+1) p σ (Ko m)=some r→∃σ'',BM σ σ''∧exec M ti nt (BI ti M nt) b σ'' KP:=fun p he=>
     ⟨σ,fun _ _ _ h=>h,(De hE hcl hr b (true::way) m Ko KP (Nat.le_trans hm hn) (fun k hk=>hb k (Nat.le_trans hk hm)) (fun k p e σ hk=>h2 k p e σ (Nat.le_trans hk hm))).1 p σ he⟩
    simp only[QW]at he
    split at he
    ·split at he
     ·exact go _ he
     ·obtain⟨m',σ',way',pl',g1,g2,g3,g4⟩:=hr m (Nat.le_trans hm hn) (true::way) _ σ he
      obtain rfl:way'=true::way:=Fa g3
      unfold F1 at g4
      rw[hb m' (Nat.le_trans (Nat.le_of_lt g1) hm)]at g4
      exact⟨σ',g2,(De hE hcl hr b (true::way) m' Ko KP (Nat.le_trans (Nat.le_trans (Nat.le_of_lt g1) hm) hn) (fun k hk=>hb k (Nat.le_trans hk (Nat.le_trans (Nat.le_of_lt g1) hm))) (fun k p e σ hk=>h2 k p e σ (Nat.le_trans hk (Nat.le_trans (Nat.le_of_lt g1) hm)))).2 pl' σ' g4⟩
    ·obtain⟨p1,σ1,hw,he⟩:=ZQ (hE m (Nat.le_trans hm hn)).ds he
     exact⟨σ1,hw,(De hE hcl hr b (true::way) m Ko KP (Nat.le_trans hm hn) (fun k hk=>hb k (Nat.le_trans hk hm)) (fun k p e σ hk=>h2 k p e σ (Nat.le_trans hk hm))).1 p1 σ1 he⟩
  exact⟨main,main⟩
 | .rangeFunc ..,_,_,_,_,_,_,_=>⟨fun _ _ e=>(by cases e),fun _ _ e=>(by cases e)⟩
 | .scope _,_,_,_,_,_,_,_=>⟨fun _ _ e=>(by cases e),fun _ _ e=>(by cases e)⟩
 | .label _,_,_,_,_,_,_,_=>⟨fun _ _ e=>(by cases e),fun _ _ e=>(by cases e)⟩
 | .goto _,_,_,_,_,_,_,_=>⟨fun _ _ e=>(by cases e),fun _ _ e=>(by cases e)⟩
 | .refuse _,_,_,_,_,_,_,_=>⟨fun _ _ e=>(by cases e),fun _ _ e=>(by cases e)⟩
end
end Go.AM
namespace Go.AM
open Go Go.RowKit
section
variable {γ:Type}{r:γ}
def Sz (ti:Types) (σ:St):List ResultVar→Option (List V1)
 | []=>some []
 | x::l=>(match (match x with
  | .tmp t=>some (AQ σ.slots t)
  | .cell a t=>Ps ti t (AQ σ.slots a) (AJ σ.heap) fun out=>some out.val)with
  | some (.v y)=>(match Sz ti σ l with
   | some xs=>some (y.norm::xs)
   | none=>none)
  | _=>none)
theorem MU {ti:Types}{σ:St}:∀{l:List ResultVar}{xs:List V1}{P:List V1→Prop},Sz ti σ l=some xs→P xs→Et ti σ l P
 | [],_,_,e,hP=>by cases e;exact hP
 | .tmp t::l,xs,P,e,hP=>by
  unfold Sz at e
  unfold Et
  simp only[]at e
  split at e
  ·rename_i y hy
   split at e
   ·rename_i ys hys
    cases e
    rw[Option.some.inj hy]
    exact MU hys hP
   ·cases e
  ·cases e
 | .cell a t::l,xs,P,e,hP=>by
  unfold Sz at e
  unfold Et
  simp only[]at e
  split at e
  ·rename_i y hy
   split at e
   ·rename_i ys hys
    cases e
    refine Oh (fun out ho=>?_) hy
    rw[Option.some.inj ho]
    exact MU hys hP
   ·cases e
  ·cases e
def Dr:List Id→List Id
 | []=>[]
 | i::l=>(match i with
  | .loc _=>i::Dr l
  | .ext _=>Dr l)
def Fb:Nat→Nat→List Id
 | _,0=>[]
 | j,n+1=>.ext j::Fb (j+1) n
def MV (nm:List Id) (i:Id):Id:=match i with
 | .ext j=>.ext j
 | .loc _=>(match rC nm 0 i with
  | some k=>.loc k
  | none=>i)
def KU (nm:List Id) (N:Nat) (i:Id):Bool:=Id.beq (Cn nm N (MV nm i)) i
theorem Jr {h:Heap}{N:Nat}{nm:List Id}:∀{n j:Nat}{ps:List AD},Dq h (Fb j n)=some ps→BZ (MB (KU nm N)) ps=true→Ec h (Cn nm N) (ps.map (AD.Az (MV nm))) j
 | 0,j,ps,e,_=>by cases e;trivial
 | n+1,j,ps,e,hb=>by
  unfold Fb Dq at e
  split at e
  ·rename_i o ho
   split at e
   ·rename_i r' hr
    cases e
    unfold BZ at hb
    split at hb
    ·rename_i h1
     show (match L1 (o.Az (MV nm))with | true=>_ | false=>_)
     split
     ·exact Jr hr hb
     ·exact⟨by rw[Ky (p:=KU nm N) (fun i hi=>Id.beq_iff.1 hi) h1];exact ho,Jr hr hb⟩
    ·cases hb
   ·cases e
  ·cases e
theorem S0 {h:Heap}{N:Nat}{nm:List Id}:∀{l:List Id}{ns:List AD},Dq h l=some ns→BZ (MB (KU nm N)) ns=true→KG h (Cn nm N) (ns.map (AD.Az (MV nm))) l
 | [],ns,e,_=>by cases e;trivial
 | i::l,ns,e,hb=>by
  unfold Dq at e
  split at e
  ·rename_i o ho
   split at e
   ·rename_i r' hr
    cases e
    unfold BZ at hb
    split at hb
    ·rename_i h1
     exact⟨by rw[Ky (p:=KU nm N) (fun i hi=>Id.beq_iff.1 hi) h1];exact ho,S0 hr hb⟩
    ·cases hb
   ·cases e
  ·cases e
theorem Js {post:List AD}:∀l:List Id,E3 post (Dr l)
 | []=>trivial
 | .loc _::l=>Js l
 | .ext _::l=>Js l
inductive Lf where
 | I (z:Int)
 | B (b:Bool)
 | S (s:ByteArray)
 | L (l:List D)
def S3:List Id→List Id→Bool
 | [],[]=>true
 | i::a,j::b=>(match Id.beq i j with
  | true=>S3 a b
  | false=>false)
 | _,_=>false
theorem MW:∀{a b:List Id},S3 a b=true→a=b
 | [],[],_=>rfl
 | i::a,j::b,h=>by
  unfold S3 at h
  split at h
  ·rename_i hb;rw[Id.beq_iff.1 hb,MW h]
  ·cases h
 | [],_::_,h=>by cases h
 | _::_,[],h=>by cases h
def xP:IntKind→IntKind→Bool:=fun a b=>decide (a=b)
def eqZ:Int→Int→Bool
 | .ofNat a,.ofNat b=>Nat.beq a b
 | .negSucc a,.negSucc b=>Nat.beq a b
 | _,_=>false
theorem rG {a b:Int}(h:eqZ a b=true):a=b:=by
 cases a<;>cases b<;>simp only[eqZ]at h
 ·simp_all
 ·cases h
 ·cases h
 simp_all
def xQ:List UInt8→List UInt8→Bool
 | [],[]=>true
 | a::l,b::m=>(match Nat.beq a.toNat b.toNat with
  | true=>xQ l m
  | false=>false)
 | _,_=>false
theorem ZS:∀{a b:List UInt8},xQ a b=true→a=b
 | [],[],_=>rfl
 | a::l,b::m,h=>by
  unfold xQ at h
  split at h
  ·rename_i hb;rw[UInt8.toNat_inj.1 (Nat.eq_of_beq_eq_true hb),ZS h]
  ·cases h
 | [],_::_,h=>by cases h
 | _::_,[],h=>by cases h
theorem kU {a b:ByteArray}(h:xQ a.data.toList b.data.toList=true):a=b:=by
 obtain⟨a⟩:=a
 obtain⟨b⟩:=b
 rw[show a=b from Array.ext' (ZS h)]
def DC (b:Bool) (x:Option (List Lf)):Option (List Lf):=match b with
 | true=>x
 | false=>none
theorem Aq {b:Bool}{x:Option (List Lf)}{l:List Lf}(h:DC b x=some l):b=true∧x=some l:=by
 cases b
 ·cases h
 ·exact⟨rfl,h⟩
def ZT:List CV→Option (List D)
 | []=>some []
 | .d x::r=>(match ZT r with
  | some l=>some (x::l)
  | none=>none)
 | _::_=>none
theorem MX:∀l:List D,ZT (l.map CV.d)=some l
 | []=>rfl
 | x::l=>by show (match ZT (l.map CV.d)with | some l=>some (x::l) | none=>none)=_;rw[MX l]
end
end Go.AM
namespace Go.AM
open Go Go.RowKit
section
variable {γ:Type}{r:γ}
def HS {α β:Type}:List α→List β→List (α×β)
 | a::l,b::m=>(a,b)::HS l m
 | _,_=>[]
inductive Ty where
 | I
 | B
 | S
 | L
def Vx (ρ:Type):List Ty→Type
 | []=>Option ρ
 | .I::l=>Int→Vx ρ l
 | .B::l=>Bool→Vx ρ l
 | .S::l=>ByteArray→Vx ρ l
 | .L::l=>List D→Vx ρ l
def U6:(l:List Ty)→Vx γ l→List Lf→Option γ
 | [],x,[]=>x
 | .I::l,f,.I z::r=>U6 l (f z) r
 | .B::l,f,.B z::r=>U6 l (f z) r
 | .S::l,f,.S z::r=>U6 l (f z) r
 | .L::l,f,.L z::r=>U6 l (f z) r
 | _,_,_=>none
def Gq:(l:List Ty)→(List Lf→Option γ)→Vx γ l
 | [],f=>f []
 | .I::l,f=>fun z=>Gq l fun r=>f (.I z::r)
 | .B::l,f=>fun z=>Gq l fun r=>f (.B z::r)
 | .S::l,f=>fun z=>Gq l fun r=>f (.S z::r)
 | .L::l,f=>fun z=>Gq l fun r=>f (.L z::r)
theorem Dy:∀{l:List Ty}{f:List Lf→Option γ}{v:List Lf},U6 l (Gq l f) v=some r→f v=some r
 | [],f,[],h=>h
 | .I::l,f,.I z::v,h=>Dy (l:=l) (f:=fun r=>f (.I z::r)) (v:=v) h
 | .B::l,f,.B z::v,h=>Dy (l:=l) (f:=fun r=>f (.B z::r)) (v:=v) h
 | .S::l,f,.S z::v,h=>Dy (l:=l) (f:=fun r=>f (.S z::r)) (v:=v) h
 | .L::l,f,.L z::v,h=>Dy (l:=l) (f:=fun r=>f (.L z::r)) (v:=v) h
 | [],_,_::_,h=>by cases h
 | .I::_,_,[],h=>by cases h
 | .B::_,_,[],h=>by cases h
 | .S::_,_,[],h=>by cases h
 | .L::_,_,[],h=>by cases h
 | .I::_,_,.B _::_,h=>by cases h
 | .I::_,_,.S _::_,h=>by cases h
 | .I::_,_,.L _::_,h=>by cases h
 | .B::_,_,.I _::_,h=>by cases h
 | .B::_,_,.S _::_,h=>by cases h
 | .B::_,_,.L _::_,h=>by cases h
 | .S::_,_,.I _::_,h=>by cases h
 | .S::_,_,.B _::_,h=>by cases h
 | .S::_,_,.L _::_,h=>by cases h
 | .L::_,_,.I _::_,h=>by cases h
 | .L::_,_,.B _::_,h=>by cases h
 | .L::_,_,.S _::_,h=>by cases h
class Res (ρ:Type) where
 pack:ρ→List Lf
 unp:List Lf→Option (ρ×List Lf)
 law:∀{l p q},unp l=some (p,q)→l=pack p++q
instance:Res Unit:=⟨fun _=>[],fun l=>some ((),l),fun h=>by cases h;rfl⟩
instance:Res Int:=⟨fun z=>[.I z],fun l=>match l with | .I z::q=>some (z,q) | _=>none,fun h=>by split at h<;>cases h;rfl⟩
instance:Res Bool:=⟨fun z=>[.B z],fun l=>match l with | .B z::q=>some (z,q) | _=>none,fun h=>by split at h<;>cases h;rfl⟩
instance:Res ByteArray:=⟨fun z=>[.S z],fun l=>match l with | .S z::q=>some (z,q) | _=>none,fun h=>by split at h<;>cases h;rfl⟩
instance:Res (List D):=⟨fun z=>[.L z],fun l=>match l with | .L z::q=>some (z,q) | _=>none,fun h=>by split at h<;>cases h;rfl⟩
instance {α β:Type} [Res α] [Res β]:Res (α×β):=⟨fun p=>Res.pack p.1++Res.pack p.2,fun l=>match (Res.unp l:Option (α×List Lf))with
  | some (a,l)=>(match (Res.unp l:Option (β×List Lf))with
    | some (b,l)=>some ((a,b),l)
    | none=>none)
  | none=>none,fun h=>by
    split at h
    · rename_i ha
      split at h
      · rename_i hb
        cases h
        rw[Res.law ha,Res.law hb,List.append_assoc]
      · cases h
    · cases h⟩
def kV (ρ:Type) [Res ρ] (l:List Lf):Option ρ:=match (Res.unp l:Option (ρ×List Lf))with
 | some (p,[])=>some p
 | _=>none
theorem Ow {ρ:Type} [Res ρ] {l:List Lf}{p:ρ}(h:kV ρ l=some p):l=Res.pack p:=by
 unfold kV at h
 split at h
 ·rename_i hu
  cases h
  rw[Res.law hu,List.append_nil]
 ·cases h
theorem MY {l:List (Id×AD)}:∀{is:List Id}{os:List AD},Dq (AJ l) is=some os→KF l is=some (HS is os)
 | [],os,h=>by cases h;rfl
 | i::is,os,h=>by
  unfold Dq at h
  split at h
  ·rename_i o ho
   split at h
   ·rename_i r' hr
    cases h
    unfold KF
    rw[ho,MY hr]
    rfl
   ·cases h
  ·cases h
theorem Ox (l:List (Nat×AV)):∀ks:List Nat,Gb l ks=HS ks (ks.map (AQ l))
 | []=>rfl
 | k::ks=>by show (k,AQ l k)::Gb l ks=(k,AQ l k)::HS ks (ks.map (AQ l));rw[Ox l ks]
def XR:List AV→Option (List V1)
 | []=>some []
 | .v x::l=>(match XR l with
  | some m=>some (x::m)
  | none=>none)
 | _::_=>none
theorem QY:∀l:List V1,XR (l.map AV.v)=some l
 | []=>rfl
 | x::l=>by show (match XR (l.map AV.v)with | some m=>some (x::m) | none=>none)=_;rw[QY l]
def XS:(l:List Ty)→Vx γ l→(List Lf→γ→Prop)→Prop
 | [],x,P=>∀p,x=some p→P [] p
 | .I::l,f,P=>∀z,XS l (f z) fun v p=>P (.I z::v) p
 | .B::l,f,P=>∀z,XS l (f z) fun v p=>P (.B z::v) p
 | .S::l,f,P=>∀z,XS l (f z) fun v p=>P (.S z::v) p
 | .L::l,f,P=>∀z,XS l (f z) fun v p=>P (.L z::v) p
theorem I2:∀{l:List Ty}{f:Vx γ l}{P:List Lf→γ→Prop}{v:List Lf}{p:γ},XS l f P→U6 l f v=some p→P v p
 | [],_,_,[],_,h,e=>h _ e
 | .I::l,f,P,.I z::v,_,h,e=>I2 (l:=l) (f:=f z) (P:=fun v p=>P (.I z::v) p) (v:=v) (h z) e
 | .B::l,f,P,.B z::v,_,h,e=>I2 (l:=l) (f:=f z) (P:=fun v p=>P (.B z::v) p) (v:=v) (h z) e
 | .S::l,f,P,.S z::v,_,h,e=>I2 (l:=l) (f:=f z) (P:=fun v p=>P (.S z::v) p) (v:=v) (h z) e
 | .L::l,f,P,.L z::v,_,h,e=>I2 (l:=l) (f:=f z) (P:=fun v p=>P (.L z::v) p) (v:=v) (h z) e
 | [],_,_,_::_,_,_,h=>by cases h
 | .I::_,_,_,[],_,_,h=>by cases h
 | .B::_,_,_,[],_,_,h=>by cases h
 | .S::_,_,_,[],_,_,h=>by cases h
 | .L::_,_,_,[],_,_,h=>by cases h
 | .I::_,_,_,.B _::_,_,_,h=>by cases h
 | .I::_,_,_,.S _::_,_,_,h=>by cases h
 | .I::_,_,_,.L _::_,_,_,h=>by cases h
 | .B::_,_,_,.I _::_,_,_,h=>by cases h
 | .B::_,_,_,.S _::_,_,_,h=>by cases h
 | .B::_,_,_,.L _::_,_,_,h=>by cases h
 | .S::_,_,_,.I _::_,_,_,h=>by cases h
 | .S::_,_,_,.B _::_,_,_,h=>by cases h
 | .S::_,_,_,.L _::_,_,_,h=>by cases h
 | .L::_,_,_,.I _::_,_,_,h=>by cases h
 | .L::_,_,_,.B _::_,_,_,h=>by cases h
 | .L::_,_,_,.S _::_,_,_,h=>by cases h
def Oy (f:Func):Code:=match f.body with
 | some c=>c
 | none=>.skip
def HW:(l:List Ty)→Vx γ l
 | []=>none
 | .I::l=>fun _=>HW l
 | .B::l=>fun _=>HW l
 | .S::l=>fun _=>HW l
 | .L::l=>fun _=>HW l
theorem S4:∀{l:List Ty}{v:List Lf},U6 l (HW (γ:=γ) l) v≠some r
 | l,v,h=>by
  have:HW (γ:=γ) l=Gq l fun _=>none:=by
   clear h
   induction l with
   | nil=>rfl
   | cons t l ih=>cases t<;>(funext z;exact ih)
  rw[this]at h
  cases Dy h
theorem Vy:∀{l:List AV}{xs:List V1},XR l=some xs→xs.length=l.length
 | [],xs,h=>by cases h;rfl
 | .v x::l,xs,h=>by
  unfold XR at h
  split at h
  ·rename_i m hm;cases h;simp[Vy hm]
  ·cases h
end
end Go.AM
