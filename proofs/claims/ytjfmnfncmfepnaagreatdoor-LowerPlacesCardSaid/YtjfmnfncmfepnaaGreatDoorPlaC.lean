/- Part of a proof. No condition. (Part 3.) -/
import Derived.LoopNIn
import Derived.OrdersIn
import Derived.Test.YtjfmnfncmfepnaaGreatDoorProg
import Derived.KernelRfl
import Derived.Laws.CopyRow
import Derived.DataReads
import Derived.Shelf.Strings.Fields
import Derived.Lib.LaidTab
import Derived.Lib.ItoaNum
import Derived.Test.YtjfmnfncmfepnaaGreatDoorPlaB
set_option linter.unusedVariables false
set_option linter.unusedSimpArgs false
set_option linter.unusedSectionVars false
namespace Go.AM
open Go Go.RowKit
structure St where
 slots:List (Nat×AV)
 heap:List (Id×AD)
 next:Nat
def AJ:List (Id×AD)→Heap
 | [],_=>none
 | (k,v)::r,i=>match Id.beq k i with
  | true=>some v
  | false=>AJ r i
def Cq:List (Id×AD)→Id→AD→List (Id×AD)
 | [],i,o=>[(i,o)]
 | (k,v)::r,i,o=>match Id.beq k i with
  | true=>(i,o)::r
  | false=>(k,v)::Cq r i o
def Cg (l:List (Id×AD)):List (Id×AD)→List (Id×AD)
 | []=>l
 | (i,o)::r=>Cg (Cq l i o) r
def Cr (l:List (Nat×AV)) (d:Option Tmp) (v:AV):List (Nat×AV):=
 match d with
 | some d=>(d,v)::l
 | none=>l
theorem Bf (k:Nat) (v:AV) (l:List (Nat×AV)):AQ ((k,v)::l)=fun t=>if t=k then v else AQ l t:=by
 funext t;show (match Nat.beq k t with | true=>v | false=>AQ l t)=_
 cases hb:Nat.beq k t with
 | true=>simp_all
 | false=>rw[if_neg (fun e=>Nat.ne_of_beq_eq_false hb e.symm)]
theorem C6 (l:List (Nat×AV)) (d:Option Tmp) (v:AV):AQ (Cr l d v)=CR (AQ l) d v:=by
 cases d with
 | none=>rfl
 | some d=>exact Bf d v l
theorem Cc (k:Id) (v:AD) (l:List (Id×AD)):AJ ((k,v)::l)=AK (AJ l) k v:=by
 funext i;show (match Id.beq k i with | true=>some v | false=>AJ l i)=if i=k then some v else AJ l i
 cases hb:Id.beq k i with
 | true=>rw[if_pos (Id.beq_iff.1 hb).symm]
 | false=>rw[if_neg (fun e=>Id.beq_false.1 hb e.symm)]
theorem CL (l:List (Id×AD)) (i:Id) (o:AD):AJ (Cq l i o)=AK (AJ l) i o:=by
 induction l with
 | nil=>exact Cc i o []
 | cons x l ih=>
  obtain⟨k,v⟩:=x;unfold Cq;cases hb:Id.beq k i with
  | true=>
   have:=Id.beq_iff.1 hb;subst this;simp only[Cc];funext j;simp only[AK];split<;>rfl
  | false=>
   have:=Id.beq_false.1 hb;simp only[Cc,ih];funext j;simp only[AK];grind
theorem Ce (wr:List (Id×AD)):∀l:List (Id×AD),AJ (Cg l wr)=Az (AJ l) wr:=by
 induction wr with
 | nil=>intro l;rfl
 | cons x wr ih=>
  intro l;show AJ (Cg (Cq l x.1 x.2) wr)=Az (AK (AJ l) x.1 x.2) wr;rw[ih,CL]
def G6 (nt:Nat) (d:Option Tmp) (K:Prop):Prop:=
 match d with
 | none=>K
 | some d=>BJ (Nat.blt d nt) K
def FK (o:Oper) (K:Prop):Prop:=
 match o.op with
 | .store ..=>match o.dst with
  | some _=>False
  | none=>K
 | .mapUpdate ..=>match o.dst with
  | some _=>False
  | none=>K
 | .insert ..=>match o.dst with
  | some _=>False
  | none=>K
 | .defer _=>False
 | _=>K
def Qc (h:Heap):AV→Option (List D)
 | .v (.d (.list _ _ rows))=>some rows
 | .v (.c (.lst _ _ _ rows))=>some rows
 | .v (.c (.tl _ _ rows))=>some rows
 | .v (.c (.ow i))=>match h i with
  | some (.tree kd _ _ rows _)=>match kd with
   | .row=>some rows
   | .flat=>some rows
   | _=>none
  | _=>none
 | _=>none
def JA:AV→Bool
 | .v (.c (.nils _ _))=>true
 | _=>false
def eqB:BinOp→Option Bool
 | .eql=>some true
 | .neq=>some false
 | _=>none
def Qe (ti:Types) (o:Oper) (s:AL) (h:Heap):Option (Bool×List D):=
 match o.op with
 | .binOp op t x y _=>match eqB op with
  | some e=>match JA (AX ti s t y)with
   | true=>(match Qc h (AX ti s t x)with
    | some rows=>some (e,rows)
    | none=>none)
   | false=>match JA (AX ti s t x)with
    | true=>(match Qc h (AX ti s t y)with
     | some rows=>some (e,rows)
     | none=>none)
    | false=>none
  | none=>none
 | _=>none
def MV (ti:Types) (o:Oper):Bool:=
 match o.op with
 | .binOp _ t _ _ _=>match ti t with
  | some i=>match i.desc with
   | .slice _=>true
   | _=>false
  | none=>false
 | _=>false
def Bx (C:Cx) (σ:St) (a:Act) (w:World):Prop:=Rel C (fun n=>σ.next≤n) (AQ σ.slots) (AJ σ.heap) a w
def BP (σ σ':St):Prop:=∀C a w,Bx C σ a w→Bx C σ' a w
def Dy (o:Oper):Bool:=
 match o.op with
 | .call c=>match c.callee with
  | .value _=>true
  | _=>false
 | .panic _=>true
 | _=>false
def Sp (h:Heap) (r:Id→Id) (m:List Id) (pre:List AD):Prop:=∀(j:Nat) i o,m[j]?=some i→pre[j]?=some o→h i=some (o.A0 r)
def qT (r:Id→Id) (sl:List (Nat×AV)):List (Nat×AV):=sl.map fun x=>(x.1,x.2.A0 r)
def VM (M:Aw) (dst:Option Tmp) (fresh:Nat) (σ:St) (n:FuncId) (xs:List V1) (K:St→Prop):Prop:=
 ∃(m:List Id) (targs:List V1) (pre:List AD) (Q:AV→List AD→List AD→Prop),Et M.P M.I n targs pre Q∧xs=targs.map (V1.A0 (BG m fresh))∧m.length=pre.length∧m.Nodup∧
  Sp (AJ σ.heap) (BG m fresh) m pre∧∀res post new,Q res post new→(Bi pre post∧new.length≤31)∧
   K ⟨Cr σ.slots dst (res.A0 (BG m fresh)),Cg σ.heap (MQ m (BG m fresh) post++Cl fresh (BG m fresh) 0 new),σ.next⟩
def Z7 (M:Aw) (dst:Option Tmp) (fresh:Nat) (σ:St) (i:Id) (r:Unit→RF) (sl:List (Nat×AV)) (xs:List V1) (K:St→Prop):Prop:=
 ∃(m:List Id) (targs:List V1) (pre:List AD) (sl0:List (Nat×AV)) (Q:Jump→List AD→List AD→Prop),Fc M.P M.I (r ()) sl0 targs pre Q∧xs=targs.map (V1.A0 (BG (m++[i]) fresh))∧
  sl=qT (BG (m++[i]) fresh) sl0∧m.length=pre.length∧(m++[i]).Nodup∧Sp (AJ σ.heap) (BG (m++[i]) fresh) m pre∧∀j post new,Q j post new→(Bi pre post∧new.length≤31)∧
   K ⟨Cr σ.slots dst (.v (.d (.bool j.isNone))),Cg σ.heap (MQ (m++[i]) (BG (m++[i]) fresh) (post++[Dx j r sl0])++Cl fresh (BG (m++[i]) fresh) 0 new),σ.next⟩
def PV (M:Aw) (ti:Types) (o:Oper) (fresh:Nat) (σ:St) (K:St→Prop):Prop:=
 match o.op with
 | .call c=>match c.callee with
  | .value f=>∃σ',BP ⟨σ.slots,σ.heap,fresh⟩ σ'∧σ'.next=fresh∧(match AX ti (AQ σ'.slots) 0 f with
   | .v (.c (.fn n cap))=>withArgs (Bn ti (AQ σ'.slots) c.args.toList c.argTypes.toList) fun xs=>VM M o.dst fresh σ' n (xs++cap.map fun i=>V1.c (.ptr i 0)) K
   | .v (.c (.yl i))=>withArgs (Bn ti (AQ σ'.slots) c.args.toList c.argTypes.toList) fun xs=>(match AJ σ'.heap i with
    | some (.rnd r sl)=>Z7 M o.dst fresh σ' i r sl xs K
    | _=>False)
   | _=>False)
  | _=>False
 | _=>False
def qU:CV→Bool
 | .ow _=>true
 | .sl _ _=>true
 | _=>false
def Z8 {α:Type}(p:α→Bool):List α→Bool
 | []=>false
 | x::r=>match p x with
  | true=>true
  | false=>Z8 p r
def Sq:AV→Bool
 | .v (.c c)=>qU c
 | .v (.agg cs)=>Z8 qU cs
 | _=>false
def qV:D→Bool
 | .list _ _ _=>true
 | _=>false
def qW:CV→Bool
 | .d x=>qV x
 | .lst _ _ _ _=>true
 | .tl _ _ _=>true
 | _=>false
def qX:AV→Bool
 | .v (.d x)=>Z8 qV x.cells
 | .v (.c c)=>qW c
 | .v (.agg cs)=>Z8 qW cs
 | _=>false
def Li:AV→Bool
 | .v (.c (.ow _))=>true
 | _=>false
def Z9 (ti:Types) (o:Oper) (s:AL) (h:Heap):Option Bool:=
 match o.op with
 | .slice t x _ _ _=>(match Li (AX ti s t x)with
  | true=>some true
  | false=>none)
 | .convert t _ x=>(match Li (AX ti s t x)with
  | true=>some true
  | false=>none)
 | .store t x y=>(match Kn (AX ti s 0 x) h with
  | true=>(match Sq (AX ti s t y)with
   | true=>some true
   | false=>none)
  | false=>(match QS (AX ti s 0 x)with
   | true=>(match qX (AX ti s t y)with
    | true=>some false
    | false=>none)
   | false=>(match Sm (AX ti s 0 x) h with
    | true=>(match Sq (AX ti s t y)with
     | true=>some true
     | false=>none)
    | false=>none)))
 | .indexAddr t x _=>(match Li (AX ti s t x)with
  | true=>some false
  | false=>none)
 | .mapUpdate _ _ _ z=>(match Sq (AX ti s 0 z)with
  | true=>some true
  | false=>none)
 | .call c=>(match c.callee with
  | .builtin .delete=>some true
  | .builtin .append=>(match c.args.toList,c.argTypes.toList with
   | [x,y],[t,t']=>(match Sq (AX ti s t x)with
    | true=>some false
    | false=>(match Sq (AX ti s t' y)with
     | true=>some false
     | false=>none))
   | _,_=>none)
  | _=>none)
 | _=>none
def Yb (M:Aw) (ti:Types) (o:Oper) (fresh:Nat) (σ:St) (K:St→Prop):Prop:=
 ∃σ',BP ⟨σ.slots,σ.heap,fresh⟩ σ'∧σ'.next=fresh∧Dg M ti o fresh (AQ σ'.slots) (AJ σ'.heap) fun out=>K ⟨Cr σ'.slots o.dst out.val,Cg σ'.heap out.wr,σ'.next⟩
def AAh (M:Aw) (ti:Types) (o:Oper) (fresh:Nat) (σ:St) (K:St→Prop):Prop:=
 Dg M ti o fresh (AQ σ.slots) (AJ σ.heap) fun out=>K ⟨Cr σ.slots o.dst out.val,Cg σ.heap out.wr,σ.next⟩
def tV (M:Aw) (fresh:Nat) (s:List (Nat×AV)) (h:List (Id×AD)) (n:FuncId) (args:List V1):Prop:=
 ∃(m:List Id) (targs:List V1) (pre:List AD) (v0:Value) (post new:List AD),AAb M.P M.I n targs pre v0 post new∧args=targs.map (V1.A0 (BG m fresh))∧m.length=pre.length∧m.Nodup∧
  (∀(j:Nat) i o,m[j]?=some i→pre[j]?=some o→AJ h i=some (o.A0 (BG m fresh)))∧Bi pre post∧new.length≤31∧
  M.pn v0 s (Cg h (MQ m (BG m fresh) post++Cl fresh (BG m fresh) 0 new)) (fresh+32)
def AAi (M:Aw) (ti:Types) (o:Oper) (fresh:Nat) (σ:St):Prop:=
 match o.op with
 | .call c=>match c.callee with
  | .value f=>match AX ti (AQ σ.slots) 0 f with
   | .v (.c (.fn n cap))=>∃xs,XH (Bn ti (AQ σ.slots) c.args.toList c.argTypes.toList) xs∧tV M fresh σ.slots σ.heap n (xs++cap.map fun i=>V1.c (.ptr i 0))
   | .v (.c (.bm n i))=>∃xs,XH (Bn ti (AQ σ.slots) c.args.toList c.argTypes.toList) xs∧tV M fresh σ.slots σ.heap n (V1.c (.ptr i 0)::xs)
   | _=>False
  | _=>False
 | .panic x=>match AX ti (AQ σ.slots) 0 x with
  | .v (.c (.kv v))=>match v with
   | .iface t u=>M.pn (.iface t u) σ.slots σ.heap fresh
   | _=>False
  | _=>False
 | _=>False
def NK (M:Aw) (ti:Types) (nt:Nat) (o:Oper) (fresh:Nat) (σ:St) (K:St→Prop):Prop:=
 FK o<| G6 nt o.dst<| match Qe ti o (AQ σ.slots) (AJ σ.heap)with
  | some (e,rows)=>BJ (MV ti o)<| (rows≠[]→K ⟨Cr σ.slots o.dst (.v (.d (.bool (DC e)))),σ.heap,σ.next⟩)∧
    (rows=[]→K ⟨Cr σ.slots o.dst (.v (.d (.bool e))),σ.heap,σ.next⟩∧K ⟨Cr σ.slots o.dst (.v (.d (.bool (DC e)))),σ.heap,σ.next⟩)
  | none=>match Dy o with
   | true=>M.lock fun _=>(Dg M ti o fresh (AQ σ.slots) (AJ σ.heap) fun out=>K ⟨Cr σ.slots o.dst out.val,Cg σ.heap out.wr,σ.next⟩)∨(PV M ti o fresh σ K∨AAi M ti o fresh σ)
   | false=>match Z9 ti o (AQ σ.slots) (AJ σ.heap)with
    | none=>Dg M ti o fresh (AQ σ.slots) (AJ σ.heap) fun out=>K ⟨Cr σ.slots o.dst out.val,Cg σ.heap out.wr,σ.next⟩
    | some b=>match b with
     | true=>M.lock fun _=>Yb M ti o fresh σ K
     | false=>M.lock fun _=>AAh M ti o fresh σ K∨Yb M ti o fresh σ K
def guarded (ops:Array Oper) (o:Oper) (σ:St) (K1 K0:St→Prop):Prop:=
 match o.guard with
 | none=>K1 σ
 | some (j,want)=>match (ops[j]?).bind (·.dst)with
  | none=>False
  | some d=>match AQ σ.slots d with
   | .v (.d (.bool c))=>match want with
    | true=>match c with
     | true=>K1 σ
     | false=>K0 σ
    | false=>match c with
     | true=>K0 σ
     | false=>K1 σ
   | .t []=>K0 σ
   | _=>False
def JB (o:Oper):Option Operand:=
 match o.op with
 | .defer c=>match o.dst with
  | none=>match c.callee with
   | .value x=>match c.args.toList with
    | []=>some x
    | _=>none
   | _=>none
  | some _=>none
 | _=>none
theorem Sr {o:Oper}{x:Operand}(h:JB o=some x):∃c,o.op= .defer c∧o.dst=none∧c.callee= .value x∧c.args=#[]:=by
 unfold JB at h;grind
def tW (M:Aw) (ti:Types) (x:Operand) (fresh:Nat) (σ:St) (K:St→Prop):Prop:=
 ∃σ',BP ⟨σ.slots,σ.heap,fresh⟩ σ'∧σ'.next=fresh∧∃f cs rows r,AX ti (AQ σ'.slots) 0 x= .v (.c (.fz f (fill cs r.cells)))∧AQ σ'.slots DT= .df f cs rows∧M.cl=true∧
  K ⟨Cr σ'.slots (some DT) (.df f cs (r::rows)),σ'.heap,σ'.next⟩
def Qf (M:Aw) (ti:Types) (x:Operand) (fresh:Nat) (σ:St) (K:St→Prop):Prop:=M.lock fun _=>tW M ti x fresh σ K
def CG (M:Aw) (ti:Types) (nt:Nat) (ops:Array Oper) (base:Nat):List Oper→Nat→St→(St→Prop)→Prop
 | [],i,σ,K=>K ⟨σ.slots,σ.heap,base+32*i⟩
 | o::r,i,σ,K=>guarded ops o σ
   (fun σ1=>match JB o with
    | some x=>Qf M ti x (base+32*i) σ1 fun σ2=>CG M ti nt ops base r (i+1) σ2 K
    | none=>NK M ti nt o (base+32*i) σ1 fun σ2=>CG M ti nt ops base r (i+1) σ2 K)
   (fun σ1=>G6 nt o.dst (CG M ti nt ops base r (i+1) ⟨Cr σ1.slots o.dst (.t []),σ1.heap,σ1.next⟩ K))
inductive Ct where
 | normal
 | exit (id:Nat)
 | ret
abbrev Qg:=Array Oper→St→(St→Prop)→Prop
def XQ (ex:St→(Ct→St→Prop)→Prop) (σ:St) (K:Ct→St→Prop):Prop:=
 ∃(I:Nat→St→Prop) (m:Nat),(∃σ0,BP σ σ0∧I m σ0)∧∀n σ1,I n σ1→ex σ1 fun e σ2=>match e with
  | .normal=>∃n' σ3,n'<n∧BP σ2 σ3∧I n' σ3
  | .exit id=>K (.exit id) σ2
  | .ret=>K .ret σ2
def MW (M:Aw) (ex:St→(Ct→St→Prop)→Prop) (K:Ct→St→Prop):Nat→St→Prop
 | 0,σ=>M.lock fun _=>XQ ex σ K
 | n+1,σ=>ex σ fun e σ2=>match e with
  | .normal=>MW M ex K n σ2
  | .exit id=>K (.exit id) σ2
  | .ret=>K .ret σ2
def VN (M:Aw) (ti:Types) (nt:Nat) (g:Operand) (ps:Array Tmp) (assign body:Code) (σ:St) (K:Ct→St→Prop):Prop:=
 ∃σ',BP σ σ'∧(match AX ti (AQ σ'.slots) 0 g with
  | .v (.c (.fn n cap))=>∃sl:List (Nat×AV),(∀t,AQ sl t= .u∨AQ sl t=AQ σ'.slots t)∧
    VM M none (σ'.next+32) ⟨σ'.slots,Cq σ'.heap (.loc σ'.next) (.rnd (fun _=>⟨ps,assign,body,nt⟩) sl),σ'.next+64⟩ n (V1.c (.yl (.loc σ'.next))::cap.map fun i=>V1.c (.ptr i 0)) fun σ2=>
     match AJ σ2.heap (.loc σ'.next)with
     | some (.rnd _ _)=>K .normal ⟨σ2.slots,Cq σ2.heap (.loc σ'.next) .gone,σ2.next⟩
     | some (.rndX j)=>(match j with
      | none=>K .ret ⟨σ2.slots,Cq σ2.heap (.loc σ'.next) .gone,σ2.next⟩
      | some id=>K (.exit id) ⟨σ2.slots,Cq σ2.heap (.loc σ'.next) .gone,σ2.next⟩)
     | _=>False
  | _=>False)
def nU (ea eb:St→(Ct→St→Prop)→Prop) (σ:St) (K:Ct→St→Prop):Prop:=
 (ea σ fun e σ'=>match e with
  | .normal=>eb σ' K
  | .exit id=>K (.exit id) σ'
  | .ret=>K .ret σ')∨
 ∃I:St→Prop,(ea σ fun e σ'=>match e with
  | .normal=>∃σ'',BP σ' σ''∧I σ''
  | .exit id=>K (.exit id) σ'
  | .ret=>K .ret σ')∧∀σ'',I σ''→eb σ'' K
def exec (M:Aw) (ti:Types) (nt:Nat) (dr:Qg):Code→St→(Ct→St→Prop)→Prop
 | .skip,σ,K=>K .normal σ
 | .region _ ops draw,σ,K=>match draw with
  | false=>CG M ti nt ops σ.next ops.toList 0 σ fun σ'=>K .normal σ'
  | true=>dr ops σ fun σ'=>K .normal σ'
 | .seq a b,σ,K=>M.lock fun _=>nU (fun σ K=>exec M ti nt dr a σ K) (fun σ K=>exec M ti nt dr b σ K) σ K
 | .cond c a b,σ,K=>PB (AX ti (AQ σ.slots) 0 c) fun q=>match q with
  | true=>exec M ti nt dr a σ K
  | false=>exec M ti nt dr b σ K
 | .block id c,σ,K=>exec M ti nt dr c σ fun e σ'=>match e with
  | .normal=>K .normal σ'
  | .exit id'=>match Nat.beq id' id with
   | true=>K .normal σ'
   | false=>K (.exit id') σ'
  | .ret=>K .ret σ'
 | .loop c,σ,K=>M.lock fun _=>XQ (fun σ K=>exec M ti nt dr c σ K) σ K∨∃n,MW M (fun σ K=>exec M ti nt dr c σ K) K n σ
 | .exit id,σ,K=>K (.exit id) σ
 | .ret,σ,K=>K .ret σ
 | .rangeFunc g ps assign body,σ,K=>M.lock fun _=>VN M ti nt g ps assign body σ K
 | _,_,_=>False
def SJ (C:Cx) (K:Ct→St→Prop):Exit→Act→World→Prop
 | .normal,a,w=>∃C',Dd C C'∧∃σ,K .normal σ∧Bx C' σ a w
 | .exit id,a,w=>∃C',Dd C C'∧∃σ,K (.exit id) σ∧Bx C' σ a w
 | .ret,a,w=>∃C',Dd C C'∧∃σ,K .ret σ∧Bx C' σ a w
 | .panic ch,a,w=>∃C',Dd C C'∧∃v0 s h nx,C'.M.pn v0 s h nx∧ch=[{v:=v0,recovered:=false}]∧Rel C' (fun n=>nx≤n) (AQ s) (AJ h) a w
 | _,_,_=>False
theorem SJ.mono {C C':Cx}{K:Ct→St→Prop}(L:Dd C C'):∀{e:Exit}{a:Act}{w:World},SJ C' K e a w→SJ C K e a w
 | .normal,_,_,⟨D,L',h⟩=>⟨D,L.trans L',h⟩
 | .exit _,_,_,⟨D,L',h⟩=>⟨D,L.trans L',h⟩
 | .ret,_,_,⟨D,L',h⟩=>⟨D,L.trans L',h⟩
 | .panic _,_,_,⟨D,L',h⟩=>⟨D,L.trans L',h⟩
theorem Rel.Af {C:Cx}{F F':Nat→Prop}{s:AL}{h:Heap}{a:Act}{w:World}(R:Rel C F s h a w) (hF:∀n,F' n→F n):Rel C F' s h a w:=
 let ⟨g,r⟩:=R
 ⟨g,r.Af hF⟩
section
variable {C:Cx}{ti:Types}{dr:Qg}
theorem IZ {nt:Nat}{d:Option Tmp}{K:Prop}:G6 nt d K↔(∀x,d=some x→x<nt)∧K:=by
 unfold G6;split
 ·simp
 ·simp[AA]
section
variable {o:Oper}
theorem Lj {K:Prop}(h:FK o K):((∀t x y,o.op= .store t x y→o.dst=none)∧∀t x y z,(o.op= .mapUpdate t x y z∨o.op= .insert t x y z)→o.dst=none)∧(∀c,o.op≠ .defer c)∧K:=by
 unfold FK at h;grind
variable {d:Nat}{F:Nat→Prop}{σ:St}{a:Act}{w:World}{ops:Array Oper}{j:Nat}
theorem tX {c:Bool}(R:Rel C F (AQ σ.slots) (AJ σ.heap) a w)
  (hd:(ops[j]?).bind (·.dst)=some d) (hc:AQ σ.slots d= .v (.d (.bool c))):yielded ops a.tmps j=some c:=by
 obtain⟨g,R⟩:=R;have:=R.slots d;rw[hc]at this;have hv:=QQ this;unfold yielded;rw[hd]
 have:a.tmps[d]?=some (.bool c):=by
  rw[Array.getD_eq_getD_getElem?]at hv;cases h:a.tmps[d]? with
  | none=>rw[h]at hv;simp[undef]at hv
  | some v=>simp_all
 simp[this]
theorem J0 (hd:(ops[j]?).bind (·.dst)=some d) (h:∃vs:Array Value,a.tmps.getD d undef= .tuple vs):yielded ops a.tmps j=none:=by
 obtain⟨vs,hv⟩:=h;unfold yielded;rw[hd];rw[Array.getD_eq_getD_getElem?]at hv;grind
theorem Ss (R:Rel C F (AQ σ.slots) (AJ σ.heap) a w)
  (hd:(ops[j]?).bind (·.dst)=some d) (hc:AQ σ.slots d= .t []):yielded ops a.tmps j=none:=by
 obtain⟨g,R⟩:=R;have:=R.slots d;rw[hc]at this;obtain⟨vs,hv,_⟩:=this;exact J0 hd ⟨vs,hv⟩
theorem Oy {K1 K0:St→Prop}(R:Rel C F (AQ σ.slots) (AJ σ.heap) a w)
  (hk:guarded ops o σ K1 K0):∃σ',σ'.heap=σ.heap∧Rel C F (AQ σ'.slots) (AJ σ'.heap) a w∧
   ((Region.wanted o (yielded ops a.tmps)=true∧K1 σ')∨(Region.wanted o (yielded ops a.tmps)=false∧K0 σ')):=by
 unfold guarded at hk;split at hk
 ·rename_i hg;exact⟨σ,rfl,R,.inl ⟨by simp[Region.wanted,hg],hk⟩⟩
 ·rename_i j want hg;split at hk
  ·exact hk.elim
  ·rename_i d hd;split at hk
   ·rename_i c hc;have hy:=tX R hd hc;cases want<;>cases c
    ·exact⟨σ,rfl,R,.inl ⟨by simp[Region.wanted,hg,hy],hk⟩⟩
    ·exact⟨σ,rfl,R,.inr ⟨by simp[Region.wanted,hg,hy],hk⟩⟩
    ·exact⟨σ,rfl,R,.inr ⟨by simp[Region.wanted,hg,hy],hk⟩⟩
    ·exact⟨σ,rfl,R,.inl ⟨by simp[Region.wanted,hg,hy],hk⟩⟩
   ·rename_i hc;have hy:=Ss R hd hc;exact⟨σ,rfl,R,.inr ⟨by simp[Region.wanted,hg,hy],hk⟩⟩
   ·exact hk.elim
variable {g:AP}{h:Heap}{rows:List D}
theorem NL {X Z:Ak}(RH:DA w X g h) {x:AV}{v:Value}(hx:Qc h x=some rows) (hr:An w Z g h x v):∃A n cap,v= .slice A n cap∧(rows≠[]→A.isNone=false):=by
 have main:∀{ag:Bool} {sz:Nat},AZ w Z (.list ag sz rows) v→∃A n cap,v= .slice A n cap∧(rows≠[]→A.isNone=false):=by
  intro ag sz hd;obtain⟨A,cap,hv,_,_,_,b,o,hA,_⟩:=Jp hd;simp_all
 unfold Qc at hx;split at hx
 ·cases hx;exact main hr
 ·cases hx;exact main hr.1
 ·cases hx;exact main hr.1
 ·rename_i i;split at hx
  ·rename_i kd ag sz rows' foc hi;split at hx
   ·cases hx
    obtain⟨ht,h0,hf,xs,ho,_⟩:=RH.objs i _ hi;obtain⟨A,cap,hv,_,_,hA⟩:=ho.row;refine⟨A,_,cap,by rw[hr.2.2 (by rw[hi];rfl),hv],fun hne=>?_⟩
    obtain⟨b,rfl⟩:=hA (List.length_pos_iff.2 hne);rfl
   ·cases hx
    obtain⟨ht,h0,hf,xs,ho,_⟩:=RH.objs i _ hi;obtain⟨A,cap,hv,_,_,hA⟩:=ho.YB.row;refine⟨A,_,cap,by rw[hr.2.2 (by rw[hi];rfl),hv],fun hne=>?_⟩
    obtain⟨b,rfl⟩:=hA (List.length_pos_iff.2 hne);rfl
   ·cases hx
  ·cases hx
 ·cases hx
theorem NM {Z:Ak}{x:AV}{v:Value}(hx:JA x=true) (hr:An w Z g h x v):v= .slice none 0 0:=by
 unfold JA at hx;split at hx
 ·exact hr
 ·cases hx
variable {P:Program}
theorem Yc {t e:TypeId}(h:P.underlying t=some (.slice e)) (A:Option Addr) (n cap:Nat) (w:World) (d:Nat):
  (Op.equalIn (d+1) t (.slice A n cap) (.slice none 0 0)).run P w= .ok A.isNone w∧(Op.equalIn (d+1) t (.slice none 0 0) (.slice A n cap)).run P w= .ok A.isNone w:=by
 constructor<;>cases A<;>simp[Op.equalIn,run_underlying h w]
theorem Su {t e:TypeId}(h:P.underlying t=some (.slice e)) (A:Option Addr) (n cap:Nat) (w:World):
  (Op.equal t (.slice A n cap) (.slice none 0 0)).run P w= .ok A.isNone w∧(Op.equal t (.slice none 0 0) (.slice A n cap)).run P w= .ok A.isNone w:=
 Yc h A n cap w 9999
variable {s:AL}
theorem Yd {C:Cx}{ti:Types}(hti:Ay C.P ti) (R:AY C F s h g a w) {e:Bool}(hn:Qe ti o s h=some (e,rows)) (hs:MV ti o=true):
  ∃c:Bool,(execOp a.eval o).run C.P w= .ok (.value (.bool (if c then e else !e))) w∧(rows≠[]→c=false):=by
 unfold Qe at hn;split at hn
 ·rename_i op t x y t' ho;split at hn
  ·rename_i e' he;unfold MV at hs;rw[ho]at hs;simp only at hs;split at hs
   ·rename_i i hi;split at hs
    ·rename_i el hd;have hu:=(hti t i hi).1;rw[hd]at hu;have ex:=AI ti t x R (s:=s) (fun _ _=>rfl)
     have ey:=AI ti t y R (s:=s) (fun _ _=>rfl)
     have fin:∀(A:Option Addr) (r:Sem Bool),(Op.equal t (a.eval x) (a.eval y)).run C.P w= .ok A.isNone w→(∃n cap,a.eval x= .slice A n cap∨a.eval y= .slice A n cap)→(∃n cap A',a.eval x= .slice A' n cap)→(∃n cap A',a.eval y= .slice A' n cap)→(rows≠[]→A.isNone=false)→e'=e→
       ∃c:Bool,(execOp a.eval o).run C.P w= .ok (.value (.bool (if c then e else !e))) w∧(rows≠[]→c=false):=by
      rintro A r hrun _ ⟨n,cap,A1,hx⟩ ⟨m,cap',A2,hy⟩ hne rfl
      refine⟨A.isNone,?_,hne⟩;rw[hx,hy]at hrun;unfold eqB at he;split at he<;>cases he<;>cases hA:A.isNone<;>simp[execOp,ho,hx,hy,eqGuard,binOp,hrun,hA]
     split at hn
     ·rename_i hny;split at hn
      ·rename_i rows' hrx;obtain⟨A,n,cap,hv,hA⟩:=NL R.heap hrx ex;have hyv:=NM hny ey;cases hn
       exact fin A (pure true) (by rw[hv,hyv];exact (Su hu A n cap w).1) ⟨n,cap,.inl hv⟩ ⟨n,cap,A,hv⟩ ⟨0,0,none,hyv⟩ hA rfl
      ·cases hn
     ·split at hn
      ·rename_i hnx;split at hn
       ·rename_i rows' hry;obtain⟨A,n,cap,hv,hA⟩:=NL R.heap hry ey;have hxv:=NM hnx ex;cases hn
        exact fin A (pure true) (by rw[hv,hxv];exact (Su hu A n cap w).2) ⟨n,cap,.inr hv⟩ ⟨0,0,none,hxv⟩ ⟨n,cap,A,hv⟩ hA rfl
       ·cases hn
      ·cases hn
    ·cases hs
   ·cases hs
  ·cases hn
 ·cases hn
variable {K:St→Prop}{fresh:Nat}{dst:Option Tmp}{vals:Array Value}
theorem J1 {n:FuncId}{xs:List V1}{Q:Exit→Act→World→Prop}
  (R:AY C F (AQ σ.slots) (AJ σ.heap) g a w) (hk:VM C.M dst fresh σ n xs K) (hF:∀k,k<32→F (fresh+k)) (hd:∀d,dst=some d→d<C.nt) (hsz:vals.size=xs.length)
  (hargs:∀(j:Nat) x v,xs[j]?=some x→vals[j]?=some v→Ah w (Av (zone g (AJ σ.heap)) C.X) g (AJ σ.heap) x v):
  (∃fn c,C.P.funcs[n]?=some fn∧fn.body=some c∧(fn.name== "runtime.NumGoroutine")=false)∧
  Calls C.P n vals w fun
   | .returned v,w''=>∃σ2,K σ2∧σ2.next=σ.next∧∃g2,(∀i q,g i= .map (some q)→g2 i=g i)∧AY C (fun k=>F k∧¬(fresh≤k∧k<fresh+32)) (AQ σ2.slots) (AJ σ2.heap) g2 (a.put dst v) w''
   | .panicked chain,w''=>Q (.panic chain) a w''
   | .outgrown,_=>LetsOut Q:=by
 obtain⟨m,targs,pre,Qp,ht,rfl,hlen,hnd,hpre,hK⟩:=hk;refine⟨ht.1,?_⟩
 refine Calls.mono (Du (Qp:=Qp) (Run:=fun p=>Calls C.P n vals w p) (vals:=vals) (dst:=dst) (Q:=Q) R (fun hpq hp=>hp.mono hpq)
  (fun X g1 _ k1 k2 k3 k4 k6=>ht.2 w X g1 vals k1 k2 k3 k4 (by rw[hsz];simp) k6) hlen hnd hpre (fun r p q h=>(hK r p q h).1) hF hd hargs) ?_
 intro e w' he;cases e with
 | returned v=>
  obtain⟨res,post,new,hq,he⟩:=he;refine⟨_,(hK res post new hq).2,rfl,?_⟩;rw[C6,Ce];exact he
 | panicked ch=>exact he
 | outgrown=>exact he
theorem Ye {r:Id→Id}{m:List Id}{pre:List AD}{i:Id}{o:AD}(hp:Sp h r m pre) (hl:m.length=pre.length) (hi:h i=some (o.A0 r)):Sp h r (m++[i]) (pre++[o]):=by
 intro j i' o' hm ho
 by_cases hj:j<m.length
 ·rw[List.getElem?_append_left hj]at hm;rw[List.getElem?_append_left (by omega)]at ho
  exact hp j i' o' hm ho
 grind
theorem J2 {a b:AD}:∀{pre post:List AD},Bi pre post→sameKind a b→Bi (pre++[a]) (post++[b])
 | [],[],_,h=>⟨h,trivial⟩
 | _::_,_::_,h,k=>⟨h.1,J2 h.2 k⟩
 | [],_::_,h,_=>h.elim
 | _::_,[],h,_=>h.elim
theorem Qh {i:Id}{r:Unit→RF}{sl:List (Nat×AV)}{xs:List V1}{Q:Exit→Act→World→Prop}
  (R:AY C F (AQ σ.slots) (AJ σ.heap) g a w) (hi:AJ σ.heap i=some (.rnd r sl)) (hk:Z7 C.M dst fresh σ i r sl xs K) (hF:∀k,k<32→F (fresh+k)) (hd:∀d,dst=some d→d<C.nt) (hsz:vals.size=xs.length)
  (hargs:∀(j:Nat) x v,xs[j]?=some x→vals[j]?=some v→Ah w (Av (zone g (AJ σ.heap)) C.X) g (AJ σ.heap) x v):
  ∃l L,g i= .map (some l)∧w.heap[l]?=some (.loop L)∧vals.size=L.params.size∧
  RoundIn Fence.wide 0 C.P l L.fn (Ea L.params vals L.tmps) L.assign L.body w fun
   | .returned v,w''=>∃σ2,K σ2∧σ2.next=σ.next∧∃g2,(∀i q,g i= .map (some q)→g2 i=g i)∧AY C (fun k=>F k∧¬(fresh≤k∧k<fresh+32)) (AQ σ2.slots) (AJ σ2.heap) g2 (a.put dst v) w''
   | .panicked chain,w''=>Q (.panic chain) a w''
   | .outgrown,_=>LetsOut Q:=by
 obtain⟨m,targs,pre,sl0,Qp,ht,rfl,rfl,hlen,hnd,hpre,hK⟩:=hk;have hsz':vals.size=targs.length:=by rw[hsz];simp
 obtain⟨l,L,hv,hl,_,_,l3,l4,l5,l6,_⟩:=R.heap.objs i _ hi;refine⟨l,L,hv,hl,by rw[hsz',ht.1,l3],?_⟩
 refine RoundIn.mono (Du (Qp:=fun res post new=>∃j post0,Qp j post0 new∧res= .v (.d (.bool j.isNone))∧post=post0++[Dx j r sl0]) (targs:=targs) (m:=m++[i]) (pre:=pre++[.rnd r sl0])
  (Run:=fun p=>RoundIn Fence.wide 0 C.P l L.fn (Ea L.params vals L.tmps) L.assign L.body w p) (vals:=vals) (dst:=dst) (Q:=Q) R (fun hpq hp=>hp.mono hpq)
  (fun X g1 kg k1 k2 k3 k4 k6=>by
   obtain⟨l',L',e1,e2,_,hr⟩:=VJ ht (fun j p q h=>(hK j p q h).1) k1 k2 k3 k4 hsz' k6
   have:g1 (.ext pre.length)= .map (some l):=by
    rw[kg,←hlen];show g (BG (m++[i]) fresh (.ext m.length))=_;simp[BG,hv]
   simp_all) (by simp[hlen]) hnd (Ye hpre hlen (by rw[hi];rfl)) (fun res post new h=>by
    obtain⟨j,post0,hq,rfl,rfl⟩:=h;obtain⟨q1,q2⟩:=(hK j post0 new hq).1;exact⟨J2 q1 (by cases j<;>trivial),q2⟩) hF hd hargs) ?_
 intro e w' he;cases e with
 | returned v=>
  obtain⟨res,post,new,⟨j,post0,hq,rfl,rfl⟩,he⟩:=he;refine⟨_,(hK j post0 new hq).2,rfl,?_⟩;rw[C6,Ce];exact he
 | panicked ch=>exact he
 | outgrown=>exact he
theorem AY.defer (R:AY C F s h g a w) (hc:C.M.cl=true) {f:Nat}{cs:List FC}{r:D}{ps:Array Value}(hs:s DT= .df f cs rows)
  (hr:Es w (Av (zone g h) C.X) g f (fill cs r.cells) (.func (.func f) #[] ps)):AY C F (CR s (some DT) (.df f cs (r::rows))) h g {a with defers:=⟨.fn (.func f) ps,#[]⟩::a.defers} w:=by
 have hd:=R.defers;rw[hc,hs]at hd;obtain⟨h1,h2⟩:=hd f cs rows rfl;refine {R with defers:=?_,slots:=fun t=>?_}
 ·rw[hc];simp only[CR,if_pos]
  rintro f' cs' rows' e
  cases e
  refine⟨by simp[h1],fun k y d hy hd=>?_⟩
  grind
 ·simp only[CR];split
  ·trivial
  ·exact R.slots t
variable {Q:Exit→Act→World→Prop}
theorem NN {s:List (Nat×AV)}{h:List (Id×AD)}{n:FuncId}{xs:List V1}
  (R:AY C F (AQ s) (AJ h) g a w) (hk:tV C.M fresh s h n xs) (hF:∀k,fresh≤k→F k) (hsz:vals.size=xs.length)
  (hargs:∀(j:Nat) x v,xs[j]?=some x→vals[j]?=some v→Ah w (Av (zone g (AJ h)) C.X) g (AJ h) x v)
  (hP:∀v0 s h nx a w,C.M.pn v0 s h nx→Rel C (fun n=>nx≤n) (AQ s) (AJ h) a w→Q (.panic [{v:=v0,recovered:=false}]) a w):
  (∃fn c,C.P.funcs[n]?=some fn∧fn.body=some c∧(fn.name== "runtime.NumGoroutine")=false)∧
  Calls C.P n vals w fun
   | .returned _,_=>False
   | .panicked chain,w''=>Q (.panic chain) a w''
   | .outgrown,_=>LetsOut Q:=by
 obtain⟨m,targs,pre,v0,post,new,ht,rfl,hlen,hnd,hpre,hkd,hnew,hpn⟩:=hk;refine⟨ht.1,?_⟩
 have core:=Du (C:=C) (Qp:=fun r p q=>r= .u∧p=post∧q=new) (Run:=fun p=>Calls C.P n vals w fun e w'=>∃v,e= .panicked [{v:=v0,recovered:=false}]∧p (.returned v) w') (vals:=vals) (dst:=none) (Q:=fun _ _ _=>False) (a:=a) (fresh:=fresh) R
  (fun hpq hp=>hp.mono fun e w' ⟨v,h1,h2⟩=>⟨v,h1,hpq _ _ h2⟩)
  (fun X g1 _ k1 k2 k3 k4 k6=>(ht.2 w X g1 vals k1 k2 k3 k4 (by rw[hsz];simp) k6).mono (by grind))
  hlen hnd hpre (by simp_all) (fun k _=>hF _ (by omega)) (fun d hd=>by cases hd) hargs
 refine core.mono ?_
 rintro e w' ⟨v,rfl,he⟩
 obtain⟨res,p,q,⟨rfl,rfl,rfl⟩,g2,_,R2⟩:=he;exact hP _ _ _ _ _ _ hpn ⟨g2,by rw[Ce];exact R2.Af fun n hn=>⟨hF n (by omega),by omega⟩⟩
theorem CD (hti:Ay C.P ti) (h1:BH ti) {ops:Array Oper}{base:Nat}{K:St→Prop}{Q:Exit→Act→World→Prop}
  (hQ:∀σ a w,K σ→Bx C σ a w→Q .normal a w) (hP:∀v0 s h nx a w,C.M.pn v0 s h nx→Rel C (fun n=>nx≤n) (AQ s) (AJ h) a w→Q (.panic [{v:=v0,recovered:=false}]) a w):∀(l:List Oper) (i:Nat) (σ:St) (a:Act) (w:World),ops.toList.drop i=l→
   CG C.M ti C.nt ops base l i σ K→Rel C (fun n=>base+32*i≤n) (AQ σ.slots) (AJ σ.heap) a w→wpOpsIn (BM C.ro) 0 C.P ops Q (List.range' i l.length) a w
 | [],i,σ,a,w,_,hk,R=>hQ _ a w hk R
 | o::r,i,σ,a,w,hl,hk,R=>by
  have hi:ops[i]?=some o:=by
   have:=congrArg (fun l=>l[0]?) hl
   simpa using this
  have hr:ops.toList.drop (i+1)=r:=by
   have:=congrArg List.tail hl;simpa using this
  simp only[List.length_cons,List.range'_succ];rw[wpOpsIn_cons];unfold wpOpIn;rw[hi];simp only[];obtain⟨σ',hh,R',⟨hw,hk⟩ | ⟨hw,hk⟩⟩:=Oy R hk
  ·rw[if_pos hw]
   have hk:(match JB o with
    | some x=>Qf C.M ti x (base+32*i) σ' fun σ2=>CG C.M ti C.nt ops base r (i+1) σ2 K
    | none=>NK C.M ti C.nt o (base+32*i) σ' fun σ2=>CG C.M ti C.nt ops base r (i+1) σ2 K):=hk
   cases hdc:JB o with
   | some x=>
    rw[hdc]at hk;obtain⟨c,ho,hdst,hcal,hargs⟩:=Sr hdc;obtain⟨σ1,hwk,hnx,f,cs,rows,r',hop,hdt,hcl,hk⟩:=(C.M.lock_iff _).1 hk;obtain⟨g,R2⟩:=hwk C a w R';have hf:=AI ti 0 x R2 (s:=AQ σ1.slots) (fun _ _=>rfl)
    rw[hop]at hf;obtain⟨ps,hfv,hlen,hbx⟩:=hf;refine⟨fun f _=>CS _ f,?_⟩
    rw[(C.hcl hcl).2]
    have hrun:(o.semAt (BM none).round a.eval).run C.P w= .ok (.defer ⟨.fn (.func f) ps.toArray,#[]⟩) w:=by
     show (execOp a.eval o).run C.P w=_;simp[execOp,ho,resolve,hcal,hfv,Deferred.ofValue,hargs]
    rw[hrun,Oper.uponIn_defer,hdst];have R3:=R2.defer hcl hdt (ps:=ps.toArray) ⟨ps,rfl,hlen,hbx⟩
    have:=CD hti h1 hQ hP r (i+1) _ {a with defers:=⟨.fn (.func f) ps.toArray,#[]⟩::a.defers} w hr hk ⟨g,by
     rw[C6];exact R3.Af (fun n hn=>by omega)⟩
    rw[(C.hcl hcl).2]at this;exact this
   | none=>
   rw[hdc]at hk;obtain⟨hst,hnd,hk⟩:=Lj hk;obtain⟨hd,hk⟩:=IZ.1 hk;split at hk
   ·rename_i e rows hnc;obtain⟨hs,hk1,hk2⟩:=AA.1 hk;obtain⟨g,R2⟩:=R';obtain⟨c,hrun,hc⟩:=Yd hti R2 hnc hs;refine Ju hnd ?_;unfold Oper.wp;rw[hrun]
    have fin:∀b:Bool,CG C.M ti C.nt ops base r (i+1) ⟨Cr σ'.slots o.dst (.v (.d (.bool b))),σ'.heap,σ'.next⟩ K→wpOpsIn (BM C.ro) 0 C.P ops Q (List.range' (i+1) r.length) (a.put o.dst (.bool b)) w:=by
     intro b hk;refine CD hti h1 hQ hP r (i+1) _ _ w hr hk ?_;rw[C6];exact⟨g,(R2.put hd (v:=.v (.d (.bool b))) (.bool b)).Af (fun n hn=>by omega)⟩
    by_cases hne:rows=[]
    ·obtain⟨k1,k2⟩:=hk2 hne;cases c with
     | true=>exact fin e k1
     | false=>have:=fin (DC e) k2;trivial
    ·rw[hc hne];have:=fin (DC e) (hk1 hne);trivial
   have plain:Dg C.M ti o (base+32*i) (AQ σ'.slots) (AJ σ'.heap) (fun out=>CG C.M ti C.nt ops base r (i+1) ⟨Cr σ'.slots o.dst out.val,Cg σ'.heap out.wr,σ'.next⟩ K)→
     Oper.wpIn (BM C.ro) 0 C.P o a w (wpOpsIn (BM C.ro) 0 C.P ops Q (List.range' (i+1) r.length)) Q:=by
    intro hk;obtain⟨out,hk,hok⟩:=HR hti h1 hst.1 hst.2 hk;refine Ju hnd ?_;refine Oper.wp_mono ?_ (hok _ _ _ a w Q R' (fun _ _=>rfl) (fun _ _=>rfl) (fun k hk=>by omega) hd)
    intro a' w' R2;refine CD hti h1 hQ hP r (i+1) _ a' w' hr hk ?_;rw[C6,Ce];exact R2.Af (fun n hn=>by omega)
   have ghost:Yb C.M ti o (base+32*i) σ' (fun σ2=>CG C.M ti C.nt ops base r (i+1) σ2 K)→Oper.wpIn (BM C.ro) 0 C.P o a w (wpOpsIn (BM C.ro) 0 C.P ops Q (List.range' (i+1) r.length)) Q:=by
    rintro⟨σ1,hwk,hnx,hk⟩
    have R2:=hwk C a w R';obtain⟨out,hk,hok⟩:=HR hti h1 hst.1 hst.2 hk;refine Ju hnd ?_;refine Oper.wp_mono ?_ (hok _ _ _ a w Q R2 (fun _ _=>rfl) (fun _ _=>rfl) (fun k hk=>by omega) hd)
    intro a' w' R3;refine CD hti h1 hQ hP r (i+1) _ a' w' hr hk ?_;rw[C6,Ce];exact R3.Af (fun n hn=>by omega)
   split at hk
   rotate_left
   ·split at hk
    ·exact plain hk
    ·split at hk
     ·exact ghost ((C.M.lock_iff _).1 hk)
     ·rcases (C.M.lock_iff _).1 hk with hk | hk
      ·exact plain hk
      ·exact ghost hk
   rcases (C.M.lock_iff _).1 hk with hk | hk
   ·exact plain hk
   rcases hk with hk | hk
   rotate_left
   ·unfold AAi at hk;split at hk
    rotate_left
    ·rename_i x ho;split at hk
     ·rename_i v hv;split at hk
      ·rename_i t u;obtain⟨g,R2⟩:=R';have hf:=AI ti 0 x R2 (s:=AQ σ'.slots) (fun _ _=>rfl)
       rw[hv]at hf;have hf:=hf.1;refine⟨fun f _=>CS _ f,?_⟩
       rw[Oper.semAt_eq _ _ _ hnd]
       have hrun:(execOp a.eval o).run C.P w= .halt (.panic (.iface t u)) w:=by
        have hp:(Instr.panic (.iface t u)).run C.P w= .halt (.panic (.iface t u)) w:=rfl;simp[execOp,ho,hf,hp]
       rw[hrun,Oper.uponIn_panic];exact hP _ _ _ _ _ _ hk ⟨g,R2⟩
      ·exact hk.elim
     ·exact hk.elim
    ·exact hk.elim
    rename_i c ho;split at hk
    rotate_left
    ·exact hk.elim
    rename_i f hc;obtain⟨g,R2⟩:=R';have hf:=AI ti 0 f R2 (s:=AQ σ'.slots) (fun _ _=>rfl)
    refine⟨fun f _=>CS _ f,?_⟩
    rw[Oper.semAt_eq _ _ _ hnd];split at hk
    ·rename_i n cap hop;rw[hop]at hf;obtain⟨hfv,hcap⟩:=hf;obtain⟨xs,hxs,hk⟩:=hk;obtain⟨h3,h4⟩:=Df (ti:=ti) R2 c.args.toList c.argTypes.toList xs (fun t ht=>rfl) hxs
     obtain⟨⟨fn,body,hfn,hb,hname⟩,hcall⟩:=NN (Q:=Q) (vals:=c.args.map a.eval++(cap.map (fun i=>CF (g i) 0)).toArray) R2 hk (fun k hk=>hk) (by simp[h3]) (fun j x v hx hv=>by
      simp only[Array.getElem?_append,Array.size_map,List.getElem?_toArray]at hv
      by_cases hj:j<c.args.size
      ·grind
      ·rw[if_neg hj]at hv;rw[List.getElem?_append_right (by rw[h3];simpa using hj),h3]at hx
       simp only[List.getElem?_map,Option.map_eq_some_iff,Array.length_toList]at hx hv;obtain⟨i,hi,rfl⟩:=hx;obtain⟨i',hi',rfl⟩:=hv;rw[hi]at hi';obtain rfl:i=i':=by simpa using hi'
       obtain⟨b,hb'⟩:=hcap i (List.mem_of_getElem? hi);exact⟨⟨b,hb'⟩,rfl⟩) hP
     have hrun:(execOp a.eval o).run C.P w= .ok (.enter n (c.args.map a.eval++(cap.map (fun i=>CF (g i) 0)).toArray)) w:=by
      have hn':¬fn.name= "runtime.NumGoroutine" :=by simpa using hname
      simp[execOp,ho,resolve,hc,hfv,Deferred.ofValue,invoke,callFunc,hfn,hb,hn']
     rw[hrun,Oper.uponIn_enter];refine⟨CC _,DF (hcall.mono ?_)⟩;grind
    ·rename_i n i0 hop;rw[hop]at hf;obtain⟨⟨b0,hb0⟩,hfv⟩:=hf;obtain⟨xs,hxs,hk⟩:=hk;obtain⟨h3,h4⟩:=Df (ti:=ti) R2 c.args.toList c.argTypes.toList xs (fun t ht=>rfl) hxs
     obtain⟨⟨fn,body,hfn,hb,hname⟩,hcall⟩:=NN (Q:=Q) (vals:=#[CF (g i0) 0]++c.args.map a.eval) R2 hk (fun k hk=>hk) (by simp[h3];omega) (fun j x v hx hv=>by
      cases j with
      | zero=>
       rw[Array.getElem?_append_left (by simp)]at hv
       simp at hx hv;subst hx;subst hv;exact⟨⟨b0,hb0⟩,rfl⟩
      | succ j=>
       grind) hP
     have hrun:(execOp a.eval o).run C.P w= .ok (.enter n (#[CF (g i0) 0]++c.args.map a.eval)) w:=by
      have hn':¬fn.name= "runtime.NumGoroutine" :=by simpa using hname
      simp[execOp,ho,resolve,hc,hfv,Deferred.ofValue,invoke,callFunc,hfn,hb,hn']
     rw[hrun,Oper.uponIn_enter];refine⟨CC _,DF (hcall.mono ?_)⟩;grind
    ·exact hk.elim
   unfold PV at hk;split at hk
   rotate_left
   ·exact hk.elim
   rename_i c ho;split at hk
   rotate_left
   ·exact hk.elim
   rename_i f hc;obtain⟨σ1,hwk,hnx,hk⟩:=hk;obtain⟨g,R2⟩:=hwk C a w R';have hF:∀k,k<32→σ1.next≤base+32*i+k:=fun k _=>by omega
   have hf:=AI ti 0 f R2 (s:=AQ σ1.slots) (fun _ _=>rfl)
   have fin:∀(σ2:St) (g2:AP) (v:Value) (w':World),CG C.M ti C.nt ops base r (i+1) σ2 K→AY C (fun k=>σ1.next≤k∧¬(base+32*i≤k∧k<base+32*i+32)) (AQ σ2.slots) (AJ σ2.heap) g2 (a.put o.dst v) w'→
     wpOpsIn (BM C.ro) 0 C.P ops Q (List.range' (i+1) r.length) (a.put o.dst v) w':=fun σ2 g2 v w' hk2 R3=>
    CD hti h1 hQ hP r (i+1) σ2 _ w' hr hk2 ⟨g2,R3.Af (fun n hn=>by omega)⟩
   refine⟨fun f _=>CS _ f,?_⟩
   rw[Oper.semAt_eq _ _ _ hnd];split at hk
   ·rename_i n cap hop;rw[hop]at hf;obtain⟨hfv,hcap⟩:=hf;unfold withArgs at hk;split at hk
    rotate_left
    ·exact hk.elim
    rename_i xs hxs;obtain⟨h3,h4⟩:=EI (ti:=ti) R2 c.args.toList c.argTypes.toList xs (fun t ht=>rfl) hxs
    obtain⟨⟨fn,body,hfn,hb,hname⟩,hcall⟩:=J1 (Q:=Q) (vals:=c.args.map a.eval++(cap.map (fun i=>CF (g i) 0)).toArray) R2 hk hF hd (by simp[h3]) (fun j x v hx hv=>by
     simp only[Array.getElem?_append,Array.size_map,List.getElem?_toArray]at hv
     by_cases hj:j<c.args.size
     ·grind
     ·rw[if_neg hj]at hv;rw[List.getElem?_append_right (by rw[h3];simpa using hj),h3]at hx
      simp only[List.getElem?_map,Option.map_eq_some_iff,Array.length_toList]at hx hv;obtain⟨i,hi,rfl⟩:=hx;obtain⟨i',hi',rfl⟩:=hv;rw[hi]at hi';obtain rfl:i=i':=by simpa using hi'
      obtain⟨b,hb'⟩:=hcap i (List.mem_of_getElem? hi);exact⟨⟨b,hb'⟩,rfl⟩)
    have hrun:(execOp a.eval o).run C.P w= .ok (.enter n (c.args.map a.eval++(cap.map (fun i=>CF (g i) 0)).toArray)) w:=by
     have hn':¬fn.name= "runtime.NumGoroutine" :=by simpa using hname
     simp[execOp,ho,resolve,hc,hfv,Deferred.ofValue,invoke,callFunc,hfn,hb,hn']
    rw[hrun,Oper.uponIn_enter];refine⟨CC _,DF (hcall.mono ?_)⟩;grind
   ·rename_i id hop;rw[hop]at hf;obtain⟨l0,hg0,hfv⟩:=hf;unfold withArgs at hk;split at hk
    rotate_left
    ·exact hk.elim
    rename_i xs hxs;obtain⟨h3,h4⟩:=EI (ti:=ti) R2 c.args.toList c.argTypes.toList xs (fun t ht=>rfl) hxs
    split at hk
    rotate_left
    ·exact hk.elim
    rename_i rf sl hid
    obtain⟨l,L,hgl,hL,hps,hround⟩:=Qh (Q:=Q) (vals:=c.args.map a.eval) R2 hid hk hF hd (by simp[h3]) (fun j x v hx hv=>by
     grind)
    rw[hg0]at hgl;obtain rfl:l0=l:=by cases hgl;rfl
    have hrun:(execOp a.eval o).run C.P w= .ok (.round l0 L.fn (Ea L.params (c.args.map a.eval) L.tmps) L.assign L.body) w:=by
     have:(Instr.yield l0 (c.args.map a.eval)).run C.P w= .ok (.round l0 L.fn (Ea L.params (c.args.map a.eval) L.tmps) L.assign L.body) w:=run_yield (P:=C.P) (args:=c.args.map a.eval) hL hps;simp only[execOp,ho,resolve,hc,hfv,Deferred.ofValue,invoke,Sem.run_bind,Result.andThen,Sem.run_pure];simp_all
    rw[hrun,Oper.uponIn_round];refine⟨CC _,Ox (hround.mono ?_)⟩;grind
   ·exact hk.elim
  ·rw[if_neg (by simp[hw])]
   obtain⟨hd,hk⟩:=IZ.1 hk;refine⟨fun f _=>CS _ f,?_⟩
   refine CD hti h1 hQ hP r (i+1) _ _ w hr hk ?_;obtain⟨g,R'⟩:=R';rw[C6];exact⟨g,(R'.put hd (v:=.t []) ⟨#[],rfl,rfl,by simp⟩).Af (fun n hn=>by omega)⟩
def GX (C:Cx) (dr:Qg):Prop:=∀(id:Nat) (ops:Array Oper) (σ:St) (K:St→Prop) (Q:Exit→Act→World→Prop) (a:Act) (w:World),
 (∀σ a w,K σ→Bx C σ a w→Q .normal a w)→(∀v0 s h nx a w,C.M.pn v0 s h nx→Rel C (fun n=>nx≤n) (AQ s) (AJ h) a w→Q (.panic [{v:=v0,recovered:=false}]) a w)→dr ops σ K→Bx C σ a w→(Code.region id ops true).wpIn (BM C.ro) 0 C.P Q a w
theorem least {p:Nat→Prop}(h:∃n,p n):∃n,p n∧∀m,p m→n≤m:=by
 obtain⟨n,hn⟩:=h
 induction n using Nat.strongRecOn with
 | _ n ih=>
  grind
theorem Sv {g:Operand}{l n:Nat}{Cn:Array Value}{fn:Func}{body:Code}(hf:a.eval g= .func (.func n) #[] Cn) (hfn:P.funcs[n]?=some fn) (hb:fn.body=some body) (hname:(fn.name== "runtime.NumGoroutine")=false):
  ∃d,(resolve a.eval (rangeCall g l) 0).run P w= .ok d w∧(invoke d.target d.args).run P w= .ok (.enter n (#[.func (.yield l) #[] #[]]++Cn)) w:=by
 have hn':¬fn.name= "runtime.NumGoroutine" :=by simpa using hname
 have he:a.eval (.const (.func (.yield l) #[] #[]))= .func (.yield l) #[] #[]:=rfl;refine⟨⟨.fn (.func n) Cn,#[.func (.yield l) #[] #[]]⟩,?_,?_⟩
 ·simp[resolve,rangeCall,hf,he,Deferred.ofValue]
 ·simp[invoke,callFunc,hfn,hb,hn']
theorem Sx (R:AY C F s h g a w) {n:Nat}(hn:F n) (ps:Array Tmp) (assign body:Code) (sl:List (Nat×AV)) (hsl:∀t,AQ sl t= .u∨AQ sl t=s t) (fn:FuncId) (hcl:C.M.cl=false):
  ∃l mark w1 C2 g2,(Instr.enterLoop fn a.tmps ps assign body (BM C.ro).round).run C.P w= .ok (l,mark) w1∧Dd C C2∧C2.w0.heap.size≤l∧g2 (.loc n)= .map (some l)∧
   AY C2 (fun k=>F k∧k≠n) s (AK h (.loc n) (.rnd (fun _=>⟨ps,assign,body,C.nt⟩) sl)) g2 {a with defers:=mark++a.defers} w1∧(∀v,BB w1 (Av (zone g2 (AK h (.loc n) (.rnd (fun _=>⟨ps,assign,body,C.nt⟩) sl))) C2.X) g2 (AK h (.loc n) (.rnd (fun _=>⟨ps,assign,body,C.nt⟩) sl)) (.yl (.loc n)) v↔v= .func (.yield l) #[] #[])∧
   (∀i,i≠ .loc n→g2 i=g i):=by
 rw[Ow];have hX:∀b o,C.X b o→b<w.heap.size:=fun b o hx=>Nat.lt_of_lt_of_le (R.xs b o hx) R.frame.size
 have slr:∀{Z:Ak} {w:World} {g:AP} {h:Heap} {v:Value} {t:Nat},An w Z g h (s t) v→An w Z g h (AQ sl t) v:=by
  intro Z w g h v t hr;rcases hsl t with e | e
  ·rw[e];trivial
  ·rw[e];exact hr
 have yl:∀{g2:AP} {w:World} {Z:Ak} {h:Heap} {l:Nat} (_:g2 (.loc n)= .map (some l)) (v:Value),BB w Z g2 h (.yl (.loc n)) v↔v= .func (.yield l) #[] #[]:=by
  intro g2 w Z h l e v;constructor
  ·rintro⟨l',h1,h2⟩
   simp_all
  ·intro h;exact⟨l,e,h⟩
 cases hro:C.ro with
 | none=>
  let wD:=w.alloc (.deferred (some []))
  let X2:Ak:=fun b o=>C.X b o∨b=w.heap.size
  have hsz:wD.heap.size=w.heap.size+1:=by simp[wD]
  have hinv:C.M.I.at wD (Av (zone g h) X2):=by
   obtain⟨i1,i2⟩:=R.inv;refine⟨C.M.I.same (fun b hb=>Below.heap_alloc w _ b (i2 b hb).1) i1,fun b hb=>⟨by grind,?_⟩⟩
   rintro o (hz | hz | hz)
   ·exact (i2 b hb).2 o (.inl hz)
   ·exact (i2 b hb).2 o (.inr hz)
   grind
  have hD:∀r∈w.heap.size::C.D,wD.heap[r]?=some (.deferred (some []))∧∀o,¬zone g h r o:=by
   intro r hr;rcases List.mem_cons.1 hr with rfl | hr
   ·refine⟨heap_alloc_new w _,?_⟩
    rintro o ⟨i,ob,hi,hz⟩
    have:=(R.heap.objs i ob hi).lt hz.HA;omega
   ·obtain⟨k1,k2⟩:=C.hD r hr;obtain⟨k3,k4⟩:=R.kept k1 k2;exact⟨(Below.heap_alloc w _ r (Array.getElem?_eq_some_iff.1 k3).1).trans k3,k4⟩
  have hDn:(w.heap.size::C.D).Nodup:=by
   refine List.nodup_cons.2 ⟨fun hm=>?_,C.hDn⟩
   have:=(Array.getElem?_eq_some_iff.1 (C.hD _ hm).1).1;have:=R.frame.size;omega
  let C2:Cx:={M:=C.M,nt:=C.nt,w0:=wD,Z0:=zone g h,X:=X2,g0:=g,hinv:=hinv,ro:=C.ro,D:=w.heap.size::C.D,hro:=fun l hl=>(by simp_all),hD:=hD,hDn:=hDn,hcl:=C.hcl}
  have A:Dc (fun _=>False) w wD:=⟨rfl,rfl,rfl,by omega,fun b hb _=>Below.heap_alloc w _ b hb⟩
  have R2:AY C2 F s h g {a with defers:=DB w.heap.size::a.defers} wD:=by
   refine R.SF A rfl rfl (fun i o hi=>.inl hi) (fun b o hb=>hb.elim) (fun i ob b hi hb hB=>hB) ?_ ?_ ?_ rfl (fun b o hz=>hz) (fun j=>.refl _) rfl ⟨fun _=>by show _=DB w.heap.size::C.D.map DB;rw[←R.marks hcl],fun h=>by rw[hcl]at h;cases h⟩ (fun k hk=>(R.free k hk).2)
   ·rintro b o (hx | hx)
    ·exact .inl (.inr hx)
    simp_all
   ·grind
   ·rintro i ob b o hi hb (hx | hx)
    ·exact R.heap.apart i ob b o hi hb hx
    ·have:=(R.heap.objs i ob hi).lt hb;omega
  have L:Dd C C2:=by
   refine⟨rfl,rfl,rfl,fun b o hx=>.inl hx,?_,fun b o hz=>?_,fun j=>R.ext j,fun hn=>absurd hro hn,[w.heap.size],rfl,?_⟩
   ·exact R.frame.then ⟨rfl,rfl,rfl,(by grind),fun b hb _=>Below.heap_alloc w _ b hb,fun b o u hu _=>A.cell hu (fun h=>h)⟩ (Z':=fun _ _=>False) (fun _ _ h=>h.elim)
   ·obtain⟨i,ob,hi,h1⟩:=hz;exact R.within i ob b o hi h1
   ·intro r hr;simp at hr;subst hr;exact⟨R.frame.size,fun o=>.inr rfl⟩
  have R3:=R2.U1 hn {state:=.ready,pending:=none,fn:=fn,tmps:=a.tmps,params:=ps,assign:=assign,body:=body,defers:=w.heap.size} (fun _=>⟨ps,assign,body,C.nt⟩) sl rfl rfl rfl rfl rfl R.size (fun t=>slr (R2.slots t))
  refine⟨w.heap.size+1,[DB w.heap.size],_,C2,_,run_enterLoop_outer fn a.tmps ps assign body,L,(by grind),?_,R3,yl ?_,fun i hi=>by simp[Ap,hi]⟩
  ·simp[Ap,hsz]
  ·simp[Ap,hsz]
 | some l0=>
  obtain⟨⟨L0,hL0⟩,hz0⟩:=C.hro l0 hro;obtain⟨k1,k2⟩:=R.kept hL0 hz0;have R3:=R.U1 hn {state:=.ready,pending:=none,fn:=fn,tmps:=a.tmps,params:=ps,assign:=assign,body:=body,defers:=L0.defers} (fun _=>⟨ps,assign,body,C.nt⟩) sl rfl rfl rfl rfl rfl R.size (fun t=>slr (R.slots t))
  refine⟨w.heap.size,[],_,C,_,?_,Dd.refl C,R.frame.size,?_,R3,yl ?_,fun i hi=>by simp[Ap,hi]⟩
  ·unfold Instr.enterLoop;simp only[Sem.run_bind,run_getLoop k1,run_newObj_alloc,Result.andThen,Sem.run_pure,pure_bind]
  ·simp[Ap]
  ·simp[Ap]
theorem Sy (R:AY C F s h g a w) {i:Id}{ob:AD}{l:Nat}{L:Loop}(hi:h i=some ob) (hob:∀o,BS (g i) ob l o) (hl:w.heap[l]?=some (.loop L)) (hnew:C.w0.heap.size≤l) (o':Obj):
  ∃C2,Dd C C2∧AY C2 F s (AK h i .gone) g a (w.putObj l o'):=by
 have hlt:l<w.heap.size:=(Array.getElem?_eq_some_iff.1 hl).1;have hX:∀b o,C.X b o→b<w.heap.size:=fun b o hx=>Nat.lt_of_lt_of_le (R.xs b o hx) R.frame.size
 have hO:∀b,FF (g i) ob b→b=l∨True:=fun _ _=>.inr trivial
 have hgo:∀j o,AK h i .gone j=some o→(h j=some o∧j≠i)∨o= .gone:=by
  intro j o hj
  by_cases e:j=i
  ·subst e;simp[AK]at hj;exact .inr hj.symm
  ·simp[AK,e]at hj;exact .inl ⟨hj,e⟩
 have zsub:∀b o,zone g (AK h i .gone) b o→zone g h b o∧b≠l:=by
  rintro b o ⟨j,ob',hj,hz⟩
  rcases hgo j ob' hj with⟨h1,h2⟩ | rfl
  ·refine⟨⟨j,ob',h1,hz⟩,?_⟩
   rintro rfl
   exact h2 (R.heap.sep j i ob' ob b h1 hi hz.HA (hob o).HA)
  ·exact hz.elim
 have kept:∀{b:Nat} {o:Obj},C.w0.heap[b]?=some o→(∀p,¬C.Z0 b p)→(w.putObj l o').heap[b]?=some o∧∀p,¬zone g (AK h i .gone) b p:=by
  intro b o hb hz;obtain⟨k1,k2⟩:=R.kept hb hz;have:b<C.w0.heap.size:=(Array.getElem?_eq_some_iff.1 hb).1;exact⟨(World.putObj_heap_other (by omega)).trans k1,fun p hp=>k2 p (zsub b p hp).1⟩
 have hinv:C.M.I.at (w.putObj l o') (Av (zone g (AK h i .gone)) C.X):=by
  obtain⟨i1,i2⟩:=R.inv
  have ne:∀b,C.M.I.blocks b→b≠l:=by
   rintro b hb rfl
   exact (i2 b hb).2 0 (.inl ⟨i,ob,hi,hob 0⟩)
  refine⟨C.M.I.same (fun b hb=>World.putObj_heap_other (ne b hb)) i1,fun b hb=>⟨by simpa using (i2 b hb).1,fun o hz=>(i2 b hb).2 o (hz.imp (fun h=>(zsub b o h).1) id)⟩⟩
 have hro:∀l0,C.ro=some l0→(∃L0,(w.putObj l o').heap[l0]?=some (.loop L0))∧∀p,¬zone g (AK h i .gone) l0 p:=by
  intro l0 hl0;obtain⟨⟨L0,k1⟩,k2⟩:=C.hro l0 hl0;simp_all
 let C2:Cx:={M:=C.M,nt:=C.nt,w0:=w.putObj l o',Z0:=zone g (AK h i .gone),X:=C.X,g0:=g,hinv:=hinv,ro:=C.ro,D:=C.D,hro:=hro,hD:=fun r hr=>kept (C.hD r hr).1 (C.hD r hr).2,hDn:=C.hDn,hcl:=C.hcl}
 have A:Dc (fun b=>b=l) w (w.putObj l o'):=⟨rfl,rfl,rfl,by simp,fun b _ hb=>World.putObj_heap_other hb⟩
 refine⟨C2,⟨rfl,rfl,rfl,fun _ _ h=>h,?_,fun b o hz=>?_,fun j=>R.ext j,fun _=>rfl,[],rfl,by simp⟩,?_⟩
 ·refine R.frame.then (Z':=fun b _=>b=l) ⟨rfl,rfl,rfl,Nat.le_of_eq World.putObj_size.symm,fun b _ hb=>World.putObj_heap_other (fun e=>hb 0 e),fun b o u hu hb=>A.cell hu hb⟩ ?_
  simp_all
 ·obtain⟨j,ob',hj,h1⟩:=(zsub b o hz).1;exact R.within j ob' b o hj h1
 ·refine R.SF A rfl rfl (fun j o hj=>(hgo j o hj).imp (·.1) id) ?_ ?_ (fun b o hx=>.inl (.inr hx)) (fun b o hx=>by simpa using hX b o hx) ?_ rfl (fun b o hz=>hz) (fun j=>.refl _) rfl ⟨R.marks,fun _=>rfl⟩ (fun k hk=>?_)
  ·rintro b o rfl;exact .inl ⟨i,ob,hi,hob o⟩
  ·rintro j ob' b hj hb rfl
   obtain⟨p,hp⟩:=hb.zone;exact (zsub b p ⟨j,ob',hj,hp⟩).2 rfl
  ·intro j ob' b o hj hb hx;rcases hgo j ob' hj with⟨h1,_⟩ | rfl
   ·exact R.heap.apart j ob' b o h1 hb hx
   ·exact hb.elim
  ·have:=(R.free k hk).2;have hne:Id.loc k≠i:=by grind
   simp[AK,hne,this]
theorem Sz {K:Ct→St→Prop}{gop:Operand}{ps:Array Tmp}{assign body:Code}(hk:VN C.M ti C.nt gop ps assign body σ K) (R:Bx C σ a w) (hcl:C.M.cl=false):
  (Code.rangeFunc gop ps assign body).wpIn (BM C.ro) 0 C.P (SJ C K) a w:=by
 obtain⟨σ1,hwk,hk⟩:=hk;obtain⟨g,R1⟩:=hwk C a w R;have hf:=AI ti 0 gop R1 (s:=AQ σ1.slots) (fun _ _=>rfl)
 split at hk
 rotate_left
 ·exact hk.elim
 rename_i n cap hop;rw[hop]at hf;obtain⟨hfv,hcap⟩:=hf;obtain⟨sl,hsl,hk⟩:=hk;refine wpIn_rangeFunc fun fn _=>?_
 obtain⟨l,mark,w1,C2,g2,hent,hle,hlnew,hgl,R2,hyl,hg2⟩:=Sx R1 (n:=σ1.next) (Nat.le_refl _) ps assign body sl hsl fn hcl
 have hcapne:∀i∈cap,i≠ .loc σ1.next:=by
  rintro i hi rfl
  obtain⟨b,hb⟩:=hcap _ hi;rw[(R1.free σ1.next (Nat.le_refl _)).1]at hb;simp[undef]at hb
 rw[←hle.M]at hk
 have R2':AY C2 (fun k=>σ1.next≤k∧k≠σ1.next) (AQ σ1.slots) (AJ (Cq σ1.heap (.loc σ1.next) (.rnd (fun _=>⟨ps,assign,body,C.nt⟩) sl))) g2 {a with defers:=mark++a.defers} w1:=by
  rw[CL];exact R2
 have hsound:=J1 (C:=C2) (Q:=SJ C K) (vals:=#[.func (.yield l) #[] #[]]++(cap.map (fun i=>CF (g i) 0)).toArray) (σ:=⟨σ1.slots,Cq σ1.heap (.loc σ1.next) (.rnd (fun _=>⟨ps,assign,body,C.nt⟩) sl),σ1.next+64⟩) R2' hk (fun k hk=>⟨by omega,by omega⟩) (by simp) (by simp[Nat.add_comm]) (fun j x v hx hv=>by
  match j with
  | 0=>
   simp at hx hv;subst hx;subst hv;have:=(hyl (.func (.yield l) #[] #[])).2 rfl;trivial
  | j+1=>
   simp only[List.getElem?_cons_succ,List.getElem?_map,Option.map_eq_some_iff]at hx;obtain⟨i,hi,rfl⟩:=hx;rw[Array.getElem?_append_right (by simp)]at hv
   simp only[List.size_toArray,List.length_cons,List.length_nil,Nat.zero_add,Nat.add_sub_cancel,List.getElem?_toArray,List.getElem?_map,Option.map_eq_some_iff]at hv;obtain⟨i',hi',rfl⟩:=hv;rw[hi]at hi';obtain rfl:i=i':=by simpa using hi'
   obtain⟨b,hb⟩:=hcap i (List.mem_of_getElem? hi);have e:=hg2 i (hcapne i (List.mem_of_getElem? hi));exact⟨⟨b,by rw[e];exact hb⟩,by rw[e]⟩)
 obtain⟨⟨fnc,cbody,hfn,hb,hname⟩,hcall⟩:=hsound;have hP:C2.P=C.P:=by show C2.M.P=C.M.P;rw[hle.M]
 rw[hP]at hfn hcall;obtain⟨d,hres,hinv⟩:=Sv (P:=C.P) (w:=w1) (l:=l) hfv hfn hb hname;refine⟨l,mark,w1,d,w1,n,_,w1,hent,hres,fun f _=>CS _ f,hinv,fun h=>absurd (CC C.ro h) (by omega),DF (hcall.mono ?_)⟩
 intro e w3 he;cases e with
 | panicked ch=>exact he
 | outgrown=>exact he
 | returned v=>
  obtain⟨σ2,hk2,hnx,g3,hg3,R3⟩:=he;have hg3l:g3 (.loc σ1.next)= .map (some l):=by simp_all
  have ha:(({a with defers:=mark++a.defers}:Act).put none v)={a with defers:=mark++a.defers}:=rfl
  rw[ha]at R3
  have leave:∀(ob:AD) (L:Loop),AJ σ2.heap (.loc σ1.next)=some ob→(∀b o,BS (g3 (.loc σ1.next)) ob b o↔Bc (g3 (.loc σ1.next)) b)→w3.heap[l]?=some (.loop L)→L.state≠ .busy→
    ∃C3 w4,Dd C C3∧(Instr.endLoop l).run C.P w3= .ok L.pending w4∧Bx C3 ⟨σ2.slots,Cq σ2.heap (.loc σ1.next) .gone,σ2.next⟩ {a with defers:=mark++a.defers} w4:=by
   intro ob L ho hz hl hb;obtain⟨C3,hle3,R4⟩:=Sy R3 ho (l:=l) (L:=L) (fun o=>(hz l o).2 (by rw[hg3l];exact .inl rfl)) hl hlnew (.loop {L with state:=.exhausted})
   refine⟨C3,_,hle.trans hle3,run_endLoop hl hb,g3,?_⟩;rw[CL];refine R4.Af fun k hk=>?_
   grind
  show rangePost _ _ _ _ _ _ _ _;unfold rangePost;simp only[];split at hk2
  ·rename_i r2 sl2 ho;obtain⟨l',L,e1,e2,e3,e4,_⟩:=R3.heap.objs _ _ ho;rw[hg3l]at e1;cases e1
   obtain⟨C3,w4,k1,k2,k3⟩:=leave _ L ho (fun _ _=>Iff.rfl) e2 (by rw[e3];simp)
   exact⟨_,w4,k2,by rw[e4];exact⟨C3,k1,_,hk2,k3⟩⟩
  ·rename_i j ho;obtain⟨l',L,e1,e2,e3,e4⟩:=R3.heap.objs _ _ ho;rw[hg3l]at e1;cases e1
   obtain⟨C3,w4,k1,k2,k3⟩:=leave _ L ho (fun _ _=>Iff.rfl) e2 (by rw[e3];simp)
   refine⟨_,w4,k2,?_⟩;rw[e4];cases j with
   | none=>exact wpIn_ret ⟨C3,k1,_,hk2,k3⟩
   | some id=>exact wpIn_exit ⟨C3,k1,_,hk2,k3⟩
  ·exact hk2.elim
end
end
def qY (F:Fence) (n:Nat) (P:Program) (c:Code) (Q:Exit→Act→World→Prop) (a:Act) (w:World):Prop:=
 ∃(J:Act→World→Prop) (μ:Act→World→Nat),J a w∧∀a w,J a w→c.wpIn F n P (Exit.then (fun a' w'=>J a' w'∧μ a' w'<μ a w) Q) a w
def MX (F:Fence) (n:Nat) (P:Program) (c:Code) (Q:Exit→Act→World→Prop):Nat→Act→World→Prop
 | 0,a,w=>qY F n P c Q a w
 | m+1,a,w=>c.wpIn F n P (Exit.then (MX F n P c Q m) Q) a w
theorem J3 {F:Fence}{n:Nat}{P:Program}{Q:Exit→Act→World→Prop}{a:Act}{w:World}{c:Code}(m:Nat) (h:MX F n P c Q m a w):(Code.loop c).wpIn F n P Q a w:=by
 intro b k cs hro hb hr
 have base:∀(J:Act→World→Prop) (μ:Act→World→Nat),(∀a w,J a w→c.wpIn F n P (Exit.then (fun a' w'=>J a' w'∧μ a' w'<μ a w) Q) a w)→∀j a w,μ a w=j→J a w→
   ∃e a' w',Q e a' w'∧ArrivesIn (Machine.fenced P F) P (lone (b.atR a (.code c::.inLoop c::k)) cs w) b k cs e a' w':=by
  intro J μ round j
  induction j using Nat.strongRecOn with
  | _ j ih=>
   intro a w hn hI;obtain⟨e,a₁,w₁,hq,harr⟩:=round a w hI b (.inLoop c::k) cs hro hb hr;cases e with
   | normal=>
    obtain⟨hI₁,hlt⟩:=hq;obtain⟨e₂,a₂,w₂,hq₂,harr₂⟩:=ih (μ a₁ w₁) (hn▸hlt) a₁ w₁ rfl hI₁;exact⟨e₂,a₂,w₂,hq₂,.of_steps (StepsIn.trans harr (.one (fenced_calm hb hr rfl) stepR_inLoop)) harr₂⟩
   | exit id=>exact⟨_,a₁,w₁,hq,.pass (x:=.inLoop c) rfl (fun _ _=>.inl (by simp)) harr⟩
   | goto l=>exact⟨_,a₁,w₁,hq,.pass (x:=.inLoop c) rfl (fun _ _=>.inl (by simp)) harr⟩
   | ret=>exact⟨_,a₁,w₁,hq,.pass (x:=.inLoop c) rfl (fun _ _=>.inl (by simp)) harr⟩
   | panic ch=>exact⟨_,a₁,w₁,hq,.pass (x:=.inLoop c) rfl (fun _ _=>.inl (by simp)) harr⟩
   | outgrown=>exact⟨_,a₁,w₁,hq,.pass (x:=.inLoop c) rfl (fun _ _=>.inl (by simp)) harr⟩
 have key:∀m a w,MX F n P c Q m a w→
   ∃e a' w',Q e a' w'∧ArrivesIn (Machine.fenced P F) P (lone (b.atR a (.code c::.inLoop c::k)) cs w) b k cs e a' w':=by
  intro m
  induction m with
  | zero=>
   rintro a w ⟨J,μ,h0,hr⟩
   exact base J μ hr _ a w rfl h0
  | succ m ih=>
   intro a w h;obtain⟨e,a₁,w₁,hq,harr⟩:=h b (.inLoop c::k) cs hro hb hr;cases e with
   | normal=>
    obtain⟨e₂,a₂,w₂,hq₂,harr₂⟩:=ih a₁ w₁ hq;exact⟨e₂,a₂,w₂,hq₂,.of_steps (StepsIn.trans harr (.one (fenced_calm hb hr rfl) stepR_inLoop)) harr₂⟩
   | exit id=>exact⟨_,a₁,w₁,hq,.pass (x:=.inLoop c) rfl (fun _ _=>.inl (by simp)) harr⟩
   | goto l=>exact⟨_,a₁,w₁,hq,.pass (x:=.inLoop c) rfl (fun _ _=>.inl (by simp)) harr⟩
   | ret=>exact⟨_,a₁,w₁,hq,.pass (x:=.inLoop c) rfl (fun _ _=>.inl (by simp)) harr⟩
   | panic ch=>exact⟨_,a₁,w₁,hq,.pass (x:=.inLoop c) rfl (fun _ _=>.inl (by simp)) harr⟩
   | outgrown=>exact⟨_,a₁,w₁,hq,.pass (x:=.inLoop c) rfl (fun _ _=>.inl (by simp)) harr⟩
 obtain⟨e,a',w',hq,harr⟩:=key m a w h;exact⟨e,a',w',hq,.of_steps (.one (fenced_calm hb hr rfl) stepR_loop) harr⟩
def D8:Code→Bool
 | .seq a b=>D8 a&&D8 b
 | .cond _ a b=>D8 a&&D8 b
 | .block _ c=>D8 c
 | .loop c=>D8 c
 | .rangeFunc ..=>false
 | _=>true
theorem Bg {ti:Types}{dr:Qg}{M:Aw}{nt:Nat}{ro:Option Nat}(hti:Ay M.P ti) (h1:BH ti) (hdr:∀C:Cx,C.M=M→C.nt=nt→GX C dr):∀(c:Code) (σ:St) (K:Ct→St→Prop) (C:Cx) (a:Act) (w:World),C.M=M→C.nt=nt→C.ro=ro→(M.cl=true→D8 c=true)→
  exec M ti nt dr c σ K→Bx C σ a w→c.wpIn (BM ro) 0 M.P (SJ C K) a w
 | .skip,σ,K,C,a,w,_,_,_,_,hk,R=>wpIn_skip ⟨C,.refl C,σ,hk,R⟩
 | .region id ops draw,σ,K,C,a,w,hM,hn,hr,hnr,hk,R=>by
  subst hM;subst hn;subst hr;cases draw with
  | false=>
   refine wpIn_region ?_;have:=CD (Q:=SJ C K) hti h1 (fun σ a w hk R=>⟨C,.refl C,σ,hk,R⟩) (fun v0 s h nx a w hpn R=>⟨C,.refl C,v0,s,h,nx,hpn,rfl,R⟩) ops.toList 0 σ a w rfl hk (R.Af (fun n hn=>by omega))
   simpa [List.range_eq_range'] using this
  | true=>exact hdr C rfl rfl id ops σ _ (SJ C K) a w (fun σ a w hk R=>⟨C,.refl C,σ,hk,R⟩) (fun v0 s h nx a w hpn R=>⟨C,.refl C,v0,s,h,nx,hpn,rfl,R⟩) hk R
 | .seq x y,σ,K,C,a,w,hM,hn,hr,hnr,hk,R=>by
  rcases (M.lock_iff _).1 hk with hk | ⟨I,hk,hb⟩
  ·refine wpIn_seq (wpIn_mono (Bg hti h1 hdr x σ _ C a w hM hn hr (fun h=>(Bool.and_eq_true_iff.1 (hnr h)).1) hk R) ?_)
   intro e a' w' hq;cases e with
   | normal=>
    obtain⟨C',hle,σ',hk',R'⟩:=hq;exact wpIn_mono (Bg hti h1 hdr y σ' K C' a' w' (hle.M.trans hM) (hle.nt.trans hn) (hle.ro.trans hr) (fun h=>(Bool.and_eq_true_iff.1 (hnr h)).2) hk' R') fun e a w q=>q.mono hle
   | exit id=>exact hq
   | ret=>exact hq
   | goto l=>exact hq
   | panic ch=>exact hq
   | outgrown=>exact hq
  ·refine wpIn_seq (wpIn_mono (Bg hti h1 hdr x σ _ C a w hM hn hr (fun h=>(Bool.and_eq_true_iff.1 (hnr h)).1) hk R) ?_)
   intro e a' w' hq;cases e with
   | normal=>
    obtain⟨C',hle,σ',⟨σ2,hw,hi⟩,R'⟩:=hq;exact wpIn_mono (Bg hti h1 hdr y σ2 K C' a' w' (hle.M.trans hM) (hle.nt.trans hn) (hle.ro.trans hr) (fun h=>(Bool.and_eq_true_iff.1 (hnr h)).2) (hb σ2 hi) (hw _ _ _ R')) fun e a w q=>q.mono hle
   | exit id=>exact hq
   | ret=>exact hq
   | goto l=>exact hq
   | panic ch=>exact hq
   | outgrown=>exact hq
 | .cond c x y,σ,K,C,a,w,hM,hn,hr,hnr,hk,R=>by
  obtain⟨q,hq,hk⟩:=PF.1 hk
  have hc:a.eval c= .bool q:=by
   obtain⟨g,R'⟩:=R;have:=AI ti 0 c R' (s:=AQ σ.slots) (fun _ _=>rfl)
   rw[hq]at this;exact QQ this
  refine wpIn_cond hc ?_;cases q with
  | true=>exact Bg hti h1 hdr x σ K C a w hM hn hr (fun h=>(Bool.and_eq_true_iff.1 (hnr h)).1) hk R
  | false=>exact Bg hti h1 hdr y σ K C a w hM hn hr (fun h=>(Bool.and_eq_true_iff.1 (hnr h)).2) hk R
 | .block id c,σ,K,C,a,w,hM,hn,hr,hnr,hk,R=>by
  refine wpIn_block (wpIn_mono (Bg hti h1 hdr c σ _ C a w hM hn hr hnr hk R) ?_);intro e a' w' hq;cases e with
  | normal=>exact hq
  | exit id'=>
   obtain⟨C',hle,σ',hk',R'⟩:=hq;show if id'=id then SJ C K .normal a' w' else SJ C K (.exit id') a' w'
   revert hk';simp only[];cases hb:Nat.beq id' id with
   | true=>
    intro hk';rw[if_pos (Nat.eq_of_beq_eq_true hb)];exact⟨C',hle,σ',hk',R'⟩
   | false=>
    intro hk';rw[if_neg (Nat.ne_of_beq_eq_false hb)];exact⟨C',hle,σ',hk',R'⟩
  | ret=>exact hq
  | goto l=>exact hq
  | panic ch=>exact hq
  | outgrown=>exact hq
 | .loop c,σ,K,C,a,w,hM,hn,hr,hnr,hk,R=>by
  classical
  have lp:∀σ C' a w,Dd C C'→XQ (fun σ K=>exec M ti nt dr c σ K) σ K→Bx C' σ a w→qY (BM ro) 0 M.P c (SJ C K) a w:=by
   rintro σ C' a w hle ⟨I,m,⟨σ0,hw,hI⟩,hround⟩ R
   let J:Act→World→Prop:=fun a w=>∃n σ C',Dd C C'∧I n σ∧Bx C' σ a w
   let μ:Act→World→Nat:=fun a w=>if h:∃n σ C',Dd C C'∧I n σ∧Bx C' σ a w then Classical.choose (least h)else 0
   have hμ:∀a w n σ C',Dd C C'→I n σ→Bx C' σ a w→μ a w≤n:=by
    intro a w n σ C' hle hi hr;have hh:∃n σ C',Dd C C'∧I n σ∧Bx C' σ a w:=⟨n,σ,C',hle,hi,hr⟩;show (if h:∃n σ C',Dd C C'∧I n σ∧Bx C' σ a w then Classical.choose (least h)else 0)≤n
    rw[dif_pos hh];exact (Classical.choose_spec (least hh)).2 n ⟨σ,C',hle,hi,hr⟩
   refine⟨J,μ,⟨m,σ0,C',hle,hI,hw _ _ _ R⟩,?_⟩
   rintro a w ⟨n0,σ1,C1,hle1,hi0,hr0⟩
   have hh:∃n σ C',Dd C C'∧I n σ∧Bx C' σ a w:=⟨n0,σ1,C1,hle1,hi0,hr0⟩;obtain⟨σ2,C2,hle2,hi,hr2⟩:=(Classical.choose_spec (least hh)).1;have hμa:μ a w=Classical.choose (least hh):=dif_pos hh;refine wpIn_mono (Bg hti h1 hdr c σ2 _ C2 a w (hle2.M.trans hM) (hle2.nt.trans hn) (hle2.ro.trans hr) hnr (hround _ σ2 hi) hr2) ?_;intro e a' w' hq;cases e with
   | normal=>
    obtain⟨C3,hle3,σ',⟨n',σ3,hlt,hwk,hi3⟩,R'⟩:=hq
    exact⟨⟨n',σ3,C3,hle2.trans hle3,hi3,hwk _ _ _ R'⟩,by
     have:=hμ a' w' n' σ3 C3 (hle2.trans hle3) hi3 (hwk _ _ _ R');omega⟩
   | exit id=>exact SJ.mono hle2 hq
   | ret=>exact SJ.mono hle2 hq
   | goto l=>exact hq
   | panic ch=>exact SJ.mono hle2 hq
   | outgrown=>exact hq
  have key:∀n σ C' a w,Dd C C'→MW M (fun σ K=>exec M ti nt dr c σ K) K n σ→Bx C' σ a w→MX (BM ro) 0 M.P c (SJ C K) n a w:=by
   intro n
   induction n with
   | zero=>intro σ C' a w hle h R;exact lp σ C' a w hle ((M.lock_iff _).1 h) R
   | succ n ih=>
    intro σ C' a w hle h R;refine wpIn_mono (Bg hti h1 hdr c σ _ C' a w (hle.M.trans hM) (hle.nt.trans hn) (hle.ro.trans hr) hnr h R) ?_;intro e a' w' hq;cases e with
    | normal=>
     obtain⟨C2,hle2,σ',h',R'⟩:=hq;exact ih σ' C2 a' w' (hle.trans hle2) h' R'
    | exit id=>exact SJ.mono hle hq
    | ret=>exact SJ.mono hle hq
    | goto l=>exact hq
    | panic ch=>exact SJ.mono hle hq
    | outgrown=>exact hq
  rcases (M.lock_iff _).1 hk with hk | ⟨n,hk⟩
  ·exact J3 0 (lp σ C a w (.refl C) hk R)
  ·exact J3 n (key n σ C a w (.refl C) hk R)
 | .exit id,σ,K,C,a,w,_,_,_,_,hk,R=>wpIn_exit ⟨C,.refl C,σ,hk,R⟩
 | .ret,σ,K,C,a,w,_,_,_,_,hk,R=>wpIn_ret ⟨C,.refl C,σ,hk,R⟩
 | .rangeFunc g ps assign body,σ,K,C,a,w,hM,hn,hr,hnr,hk,R=>by
  subst hM;subst hn;subst hr;exact Sz ((C.M.lock_iff _).1 hk) R (by cases h:C.M.cl with | false=>rfl | true=>exact absurd (hnr h) (by simp[D8]))
 | .scope _,_,_,_,_,_,_,_,_,_,hk,_=>hk.elim
 | .label _,_,_,_,_,_,_,_,_,_,hk,_=>hk.elim
 | .goto _,_,_,_,_,_,_,_,_,_,hk,_=>hk.elim
 | .refuse _,_,_,_,_,_,_,_,_,_,hk,_=>hk.elim
end Go.AM
namespace Go.AM
open Go Go.RowKit
def MK (n:Nat):Id→Bool
 | .loc k=>Nat.blt k n
 | .ext _=>true
def fcB (n:Nat):FC→Bool
 | .p i=>MK n i
 | _=>true
def qZ (n:Nat):CV→Bool
 | .ptr i _=>MK n i
 | .fn _ cap=>Bd (MK n) cap
 | .lst i _ _ _=>MK n i
 | .sl i _=>MK n i
 | .map i=>MK n i
 | .ap i _ _ _ _=>MK n i
 | .ow i=>MK n i
 | .op i _ _ _=>MK n i
 | .yl i=>MK n i
 | .bm _ i=>MK n i
 | .fz _ cs=>Bd (fcB n) cs
 | .fb i=>MK n i
 | _=>true
def v1B (n:Nat):V1→Bool
 | .d _=>true
 | .c x=>qZ n x
 | .agg cs=>Bd (qZ n) cs
def avB (n:Nat):AV→Bool
 | .u=>true
 | .v x=>v1B n x
 | .t xs=>Bd (v1B n) xs
 | .df _ cs _=>Bd (fcB n) cs
def nV (n:Nat):AD→Bool
 | .cells cs=>Bd (qZ n) cs
 | .tok ..=>true
 | .map ..=>true
 | .arr cs1 _ _ _ cs2=>match Bd (qZ n) cs1 with
  | true=>Bd (qZ n) cs2
  | false=>false
 | .tree _ _ _ _ foc=>match foc with
  | some x=>Bd (qZ n) x.2
  | none=>true
 | .pmap _ _ _ _ foc=>match foc with
  | some x=>MK n x.2
  | none=>true
 | .part ..=>true
 | .fnl _ cs _=>Bd (fcB n) cs
 | .gone=>true
 | .rnd _ sl=>Bd (fun x=>avB n x.2) sl
 | .rndX _=>true
theorem Bz {α:Type}{f:α→α}{l:List α}(h:∀x∈l,f x=x):l.map f=l:=by
 induction l with
 | nil=>rfl
 | cons x l ih=>simp_all
section
variable {n N:Nat}
def low (n N:Nat):Id→Id
 | .loc k=>if k<n then .loc k else .loc N
 | .ext j=>.ext j
theorem CE {i:Id}(h:MK n i=true):low n N i=i:=by
 cases i with
 | ext j=>rfl
 | loc k=>
  have:k<n:=by simpa [MK] using h
  simp[low,this]
theorem tZ {c:FC}(h:fcB n c=true):c.A0 (low n N)=c:=by
 cases c with
 | p i=>simp only[FC.A0];rw[CE h]
 | d x=>rfl
 | h=>rfl
theorem Qi {cs:List FC}(h:Bd (fcB n) cs=true):cs.map (FC.A0 (low n N))=cs:=by
 rw[BE]at h;exact Bz fun i hi=>tZ (h i hi)
theorem Kq {c:CV}(h:qZ n c=true):c.A0 (low n N)=c:=by
 cases c<;>simp only[CV.A0,qZ]at h ⊢
 ·rw[CE h]
 ·congr 1;rw[BE]at h;exact Bz fun i hi=>CE (h i hi)
 ·rw[CE h]
 ·rw[CE h]
 ·rw[CE h]
 ·rw[CE h]
 ·rw[CE h]
 ·rw[CE h]
 ·rw[CE h]
 ·rw[CE h]
 ·rw[Qi h]
 ·rw[CE h]
theorem gR {c:V1}(h:v1B n c=true):c.A0 (low n N)=c:=by
 cases c<;>simp only[V1.A0,v1B]at h ⊢
 ·rw[Kq h]
 ·congr 1;rw[BE]at h;exact Bz fun i hi=>Kq (h i hi)
theorem VO {c:AV}(h:avB n c=true):c.A0 (low n N)=c:=by
 cases c<;>simp only[AV.A0,avB]at h ⊢
 ·rw[gR h]
 ·congr 1;rw[BE]at h;exact Bz fun i hi=>gR (h i hi)
 ·rw[Qi h]
theorem nW {c:AD}(h:nV n c=true):c.A0 (low n N)=c:=by
 cases c<;>simp only[AD.A0,nV]at h ⊢
 ·congr 1;rw[BE]at h;exact Bz fun i hi=>Kq (h i hi)
 ·split at h
  ·rename_i h1;rw[BE]at h h1;rw[Bz fun i hi=>Kq (h1 i hi),Bz fun i hi=>Kq (h i hi)]
  ·cases h
 ·congr 1;split at h
  ·rw[BE]at h;show some (_,List.map (CV.A0 (low n N)) _)=_;rw[Bz (f:=CV.A0 (low n N)) fun i hi=>Kq (h i hi)]
  ·rfl
 ·congr 1;split at h
  ·show some (_,low n N _)=_;rw[CE h]
  ·rfl
 ·rw[Qi h]
 ·congr 1;rw[BE]at h;refine Bz fun i hi=>?_
  show (i.1,i.2.A0 (low n N))=i;rw[VO (h i hi)]
end
def Part (σ σ':St):Prop:=
 (∀t,AQ σ'.slots t= .u∨AQ σ'.slots t=AQ σ.slots t)∧(∀i o,AJ σ'.heap i=some o→AJ σ.heap i=some o)∧
 (∀t,avB σ'.next (AQ σ'.slots t)=true)∧(∀i o,AJ σ'.heap i=some o→MK σ'.next i=true∧nV σ'.next o=true)
theorem Yf {σ σ':St}(h:Part σ σ'):BP σ σ':=by
 obtain⟨hs,hh,hb,ho⟩:=h
 rintro C a w ⟨g,R⟩
 let N:=max σ.next σ'.next
 let r:=low σ'.next N
 let g':AP:=fun i=>g (r i)
 have hN:=R.free N (Nat.le_max_left _ _)
 have hz:∀b o,zone g' (AJ σ'.heap) b o→zone g (AJ σ.heap) b o:=by
  rintro b o ⟨i,ob,hi,h1⟩
  refine⟨i,ob,hh i ob hi,?_⟩;have:g' i=g i:=by show g (low _ _ i)=g i;rw[CE (ho i ob hi).1]
  rw[←this];exact h1
 have hzz:∀b o,Av (zone g' (AJ σ'.heap)) C.X b o→Av (zone g (AJ σ.heap)) C.X b o:=fun b o hx=>hx.imp (hz b o) id
 have ht:∀i n sz e,AJ σ'.heap i=some (.tok n sz e)→AJ σ.heap (r i)=some (.tok n sz e):=by
  intro i n sz e hi;rw[show r i=i from CE (ho i _ hi).1]
  exact hh i _ hi
 have hw:∀i,isLive (AJ σ'.heap i)=true→isLive (AJ σ.heap (r i))=true:=by
  intro i hi;cases hc:AJ σ'.heap i with
  | none=>rw[hc]at hi;cases hi
  | some o=>
   rw[show r i=i from CE (ho i _ hc).1,hh i _ hc,←hc]
   exact hi
 have hdf:DY w (Av (zone g' (AJ σ'.heap)) C.X) g' C.M.cl (AQ σ'.slots DT) a.defers C.D:=by
  rcases hs DT with e | e
  ·rw[e];exact R.defers.un (by simp)
  ·have:=R.defers;rw[←e,←VO (N:=N) (hb DT)]at this;exact DY.pull (r:=r) hzz (fun _=>rfl) this
 refine⟨g',R.size,hdf,fun t=>?_,⟨fun i o hi=>?_,fun i j oi oj b hi hj bi bj=>?_,fun i oi b o hi bi=>?_⟩,R.frame,fun j=>R.ext j,fun j ob b o hj hz'=>?_,R.xs,fun n hn=>⟨?_,?_⟩⟩
 ·rcases hs t with e | e
  ·rw[e];trivial
  ·have:=R.slots t;rw[←e,←VO (N:=N) (hb t)]at this;exact An.pull (r:=r) hzz (fun _=>rfl) ht hw this
 ·have h1:=R.heap.objs i o (hh i o hi);rw[←nW (N:=N) (ho i o hi).2]at h1;have:=BL.pull (r:=r) (g':=g') hzz (fun _=>rfl) ht hw h1
  rw[show g' i=g i from by show g (low _ _ i)=g i;rw[CE (ho i o hi).1]]
  exact this
 ·have e1:g' i=g i:=by show g (low _ _ i)=g i;rw[CE (ho i oi hi).1]
  have e2:g' j=g j:=by show g (low _ _ j)=g j;rw[CE (ho j oj hj).1]
  rw[e1]at bi;rw[e2]at bj;exact R.heap.sep i j oi oj b (hh i oi hi) (hh j oj hj) bi bj
 ·have e1:g' i=g i:=by show g (low _ _ i)=g i;rw[CE (ho i oi hi).1]
  rw[e1]at bi;exact R.heap.apart i oi b o (hh i oi hi) bi
 ·have e1:g' j=g j:=by show g (low _ _ _)=_;rw[CE (ho _ ob hj).1]
  rw[e1]at hz';exact R.within j ob b o (hh _ ob hj) hz'
 ·have:¬n<σ'.next:=by omega
  show g (low _ _ (.loc n))=undef;simp only[low,if_neg this];exact hN.1
 ·cases hc:AJ σ'.heap (.loc n)with
  | none=>rfl
  | some o=>
   have:=(ho _ o hc).1;simp[MK]at this;omega
def HS (l:List (Nat×AV)):List Nat→List (Nat×AV)
 | []=>[]
 | k::ks=>(k,AQ l k)::HS l ks
def Lk (l:List (Id×AD)):List Id→Option (List (Id×AD))
 | []=>some []
 | i::is=>match AJ l i with
  | some o=>match Lk l is with
   | some r=>some ((i,o)::r)
   | none=>none
  | none=>none
def VP (ks:List Nat) (is:List Id) (n:Nat) (σ:St) (K:St→Prop):Prop:=
 match Lk σ.heap is with
 | none=>False
 | some hp=>BJ (Bd (fun x=>avB n x.2) (HS σ.slots ks))<| BJ (Bd (fun x:Id×AD=>match MK n x.1 with | true=>nV n x.2 | false=>false) hp)<|
   K ⟨HS σ.slots ks,hp,n⟩
theorem PW {l:List (Nat×AV)}{ks:List Nat}(t:Nat):AQ (HS l ks) t= .u∨AQ (HS l ks) t=AQ l t:=by
 induction ks with
 | nil=>exact .inl rfl
 | cons k ks ih=>
  show AQ ((k,AQ l k)::HS l ks) t=_∨AQ ((k,AQ l k)::HS l ks) t=_;rw[Bf];grind
theorem S0 {p:AV→Bool}(hu:p .u=true) {l:List (Nat×AV)}(h:Bd (fun x=>p x.2) l=true) (t:Nat):p (AQ l t)=true:=by
 induction l with
 | nil=>exact hu
 | cons x l ih=>
  obtain⟨k,v⟩:=x;rw[BE]at h;rw[Bf];simp only[];split
  ·simp_all
  ·exact ih (BE.2 fun x hx=>h x (by simp[hx]))
theorem Ia {l:List (Id×AD)}:∀{is:List Id}{r:List (Id×AD)},Lk l is=some r→∀i o,AJ r i=some o→AJ l i=some o∧(i,o)∈r
 | [],r,h,i,o,hi=>by simp[Lk]at h;subst h;simp[AJ]at hi
 | j::is,r,h,i,o,hi=>by
  unfold Lk at h;split at h
  ·rename_i o' ho;split at h
   ·rename_i r' hr;simp at h;subst h;rw[Cc]at hi;simp only[AK]at hi;split at hi
    ·simp_all
    ·obtain⟨h1,h2⟩:=Ia hr i o hi;simp_all
   ·simp at h
  ·simp at h
theorem Yg {ks:List Nat}{is:List Id}{n:Nat}{σ:St}{K:St→Prop}(h:VP ks is n σ K):∃σ',BP σ σ'∧K σ':=by
 unfold VP at h;split at h
 ·exact h.elim
 ·rename_i hp hhp;obtain⟨h1,h⟩:=AA.1 h;obtain⟨h2,h⟩:=AA.1 h;refine⟨_,Yf ⟨fun t=>PW t,fun i o hi=>(Ia hhp i o hi).1,fun t=>S0 rfl h1 t,fun i o hi=>?_⟩,h⟩
  have:=BE.1 h2 _ (Ia hhp i o hi).2;grind
end Go.AM
namespace Go.AM
open Go Go.RowKit
def iA:CV→Value→Bool
 | .d (.int k n),.int k' m=>decide (k=k')&&decide (n=m)
 | .d (.bool b),.bool b'=>b==b'
 | .d (.str s),.string s'=>s.data.toList.isEmpty&&s'.data.toList.isEmpty
 | .nils _ _,.slice none 0 0=>true
 | .nilp,.pointer none=>true
 | .nilf,.nilFunc=>true
 | .nilm,.map none=>true
 | .un,.nilIface=>true
 | _,_=>false
def PX:List CV→List Value→Bool
 | [],[]=>true
 | c::cs,v::vs=>iA c v&&PX cs vs
 | _,_=>false
def Good (P:Program) (t:TypeId) (x:TI):Prop:=
 P.underlying t=some x.desc∧(P.info? t).map (fun i=>(i.size,i.bytes,i.zero))=some (x.size,x.bytes,some x.zero)∧
 (PX x.zc x.zero.cells.toList&&(Nat.beq x.zc.length x.size&&(AR x.desc || Nat.beq x.size 1)))=true
def Bo (P:Program):List (Nat×TI)→Prop
 | []=>True
 | p::l=>Good P p.1 p.2∧Bo P l
def GB (P:Program):List (List (Nat×TI))→Prop
 | []=>True
 | p::l=>Bo P p∧GB P l
def assoc:List (Nat×TI)→Nat→Option TI
 | [],_=>none
 | (k,x)::l,t=>match Nat.beq k t with
  | true=>some x
  | false=>assoc l t
def nth {α:Type}:List (List α)→Nat→List α
 | [],_=>[]
 | x::l,n=>match n with
  | 0=>x
  | n+1=>nth l n
def XR (l:List (List (Nat×TI))):Types:=fun t=>assoc (nth l (t / 16)) t
theorem iB {c:CV}{v:Value}(h:iA c v=true):SK c v:=by
 unfold iA at h;split at h
 ·simp at h;exact h
 ·simpa [SK] using h
 ·simp only[Bool.and_eq_true,List.isEmpty_iff]at h
  have e:∀s:ByteArray,s.data.toList=[]→s=ByteArray.empty:=by
   intro s hs;apply ByteArray.ext;simp_all
  rw[e _ h.1,e _ h.2];rfl
 ·trivial
 ·trivial
 ·trivial
 ·trivial
 ·rfl
 ·simp at h
theorem S3:∀{cs:List CV}{vs:List Value},PX cs vs=true→vs.length=cs.length∧∀(j:Nat) c u,cs[j]?=some c→vs[j]?=some u→SK c u
 | [],[],_=>⟨rfl,by simp⟩
 | c::cs,v::vs,h=>by
  simp only[PX,Bool.and_eq_true]at h;obtain⟨h1,h2⟩:=S3 h.2;refine⟨by simp[h1],fun j c' u hc hu=>?_⟩
  match j with
  | 0=>simp at hc hu;subst hc;subst hu;exact iB h.1
  | j+1=>grind
 | [],_::_,h=>by simp[PX]at h
 | _::_,[],h=>by simp[PX]at h
theorem NP {P:Program}:∀{l:List (Nat×TI)}{t:Nat}{x:TI},Bo P l→assoc l t=some x→Good P t x
 | [],t,x,_,h=>by simp[assoc]at h
 | (k,y)::l,t,x,hg,h=>by
  unfold assoc at h;split at h
  ·rename_i hb;simp at h;subst h;have:=Nat.eq_of_beq_eq_true hb;subst this;exact hg.1
  ·exact NP hg.2 h
theorem S4 {P:Program}:∀{l:List (List (Nat×TI))}{n:Nat},GB P l→Bo P (nth l n)
 | [],_,_=>trivial
 | x::l,0,h=>h.1
 | x::l,n+1,h=>S4 (l:=l) (n:=n) h.2
section
variable {P:Program}{l:List (List (Nat×TI))}
theorem NQ (h:GB P l) {t:Nat}{x:TI}(hx:XR l t=some x):Good P t x:=NP (S4 h) hx
theorem iC (h:GB P l):Ay P (XR l):=by
 intro t x hx;obtain⟨h1,h2,h3⟩:=NQ h hx;refine⟨h1,?_⟩;simp only[Option.map_eq_some_iff]at h2;obtain⟨i,hi,he⟩:=h2;simp only[Prod.mk.injEq]at he;simp only[Bool.and_eq_true,Nat.beq_eq]at h3;obtain⟨z1,z2⟩:=S3 h3.1;grind
theorem Yh (h:GB P l):BH (XR l):=by
 intro t x hx hr;obtain⟨_,_,h3⟩:=NQ h hx;simp_all
end
end Go.AM
namespace Go.Proofs.YtjfmnfncmfepnaaGreatDoor
open Go Go.AM
def fd (n:String) (t o b:Nat):Field:=⟨n,t,o,false, "", "",b⟩
def fp (p n:String) (t o b:Nat):Field:=⟨n,t,o,false, "",p,b⟩
def vZ:CV→Value
 | .d (.int k _)=>.int k 0
 | .d (.str _)=>.string ByteArray.empty
 | .d (.bool _)=>.bool false
 | .nilm=>.map none
 | .nilp=>.pointer none
 | .nilf=>.nilFunc
 | _=>.slice none 0 0
def Oz (b:Nat) (fs:Array Field) (cs:List CV):TI:=⟨.struct fs,cs.length,b,.agg (cs.map vZ).toArray,cs⟩
def ra (n:Nat) (t b:Nat) (cs:List CV):TI:=⟨.array n t,n*cs.length,b,.agg ((List.replicate n cs).flatten.map vZ).toArray,(List.replicate n cs).flatten⟩
def XS (e:Nat) (a:Bool) (n:Nat):TI:=⟨.slice e,1,24,.slice none 0 0,[.nils a n]⟩
def zi:CV:=.d (.int .i64 0)
def zu:CV:=.d (.int .u8 0)
def zs:CV:=.d (.str ByteArray.empty)
def zb:CV:=.d (.bool false)
def rA:List (Nat×TI):=[(1,⟨.func #[] #[] false,1,8,.nilFunc,[.nilf]⟩),
 (2,⟨.int .i64,1,8,.int .i64 0,[.d (.int .i64 0)]⟩),
 (3,⟨.int .i64,1,8,.int .i64 0,[.d (.int .i64 0)]⟩),
 (4,⟨.bool,1,1,.bool false,[.d (.bool false)]⟩),
 (5,⟨.int .u8,1,1,.int .u8 0,[.d (.int .u8 0)]⟩),
 (9,⟨.string,1,16,.string ByteArray.empty,[.d (.str ByteArray.empty)]⟩)]
theorem AAl:Bo Tryz.prog rA:=by repeat (any_goals first | exact trivial | kernel_rfl | constructor)
def rB:List (Nat×TI):=[(22,XS 56 true 16),
 (24,Oz 24 #[fd "Items" 22 0 0] [.nils true 16]),
 (26,XS 40 true 4),
 (28,Oz 56 #[fd "Funcs" 26 0 0,fd "Main" 3 1 24,fd "Types" 22 2 32] [.nils true 4,zi,.nils true 16]),
 (29,⟨.int .i64,1,8,.int .i64 0,[.d (.int .i64 0)]⟩)]
theorem AAm:Bo Tryz.prog rB:=by repeat (any_goals first | exact trivial | kernel_rfl | constructor)
def rC:List (Nat×TI):=[(38,XS 44 true 9),
 (40,Oz 56 #[fd "Name" 9 0 0,fd "Params" 3 1 16,fd "Slots" 3 2 24,fd "Code" 38 3 32] [zs,zi,zi,.nils true 9]),
 (41,XS 3 false 1),
 (42,XS 9 false 1),
 (44,Oz 128 #[fd "Op" 5 0 0,fd "A" 3 1 8,fd "B" 3 2 16,fd "C" 3 3 24,fd "Slots" 41 4 32,fd "Path" 42 5 56,fd "Int" 2 6 80,fd "Name" 9 7 88,fd "Names" 42 8 104] [zu,zi,zi,zi,.nils false 1,.nils false 1,zi,zs,.nils false 1]),
 (45,XS 58 true 4),
 (46,XS 48 true 3)]
theorem AAn:Bo Tryz.prog rC:=by repeat (any_goals first | exact trivial | kernel_rfl | constructor)
def rD:List (Nat×TI):=[(48,Oz 48 #[fd "Kind" 5 0 0,fd "Name" 9 1 8,fd "Args" 46 2 24] [zu,zs,.nils true 3]),
 (49,XS 90 true 15),
 (51,Oz 40 #[fd "Name" 9 0 0,fd "Path" 42 1 16] [zs,.nils false 1]),
 (52,XS 54 true 8),
 (54,Oz 120 #[fd "Op" 5 0 0,fd "Int" 2 1 8,fd "Name" 9 2 16,fd "Second" 9 3 32,fd "Place" 51 4 48,fd "Args" 52 6 88,fd "At" 3 7 112] [zu,zi,zs,zs,zs,.nils false 1,.nils true 8,zi]),
 (56,Oz 248 #[fd "Kind" 5 0 0,fd "Name" 9 1 8,fd "Fields" 45 2 24,fd "Result" 48 3 48,fd "Body" 49 6 96,fd "Return" 54 7 120,fd "At" 3 15 240] [zu,zs,.nils true 4,zu,zs,.nils true 3,.nils true 15,zu,zi,zs,zs,zs,.nils false 1,.nils true 8,zi,zi]),
 (58,Oz 64 #[fd "Name" 9 0 0,fd "Type" 48 1 16] [zs,zu,zs,.nils true 3]),
 (63,XS 126 true 2)]
theorem AAo:Bo Tryz.prog rD:=by repeat (any_goals first | exact trivial | kernel_rfl | constructor)
def rE:List (Nat×TI):=[(65,⟨.pointer 69,1,8,.pointer none,[.nilp]⟩),
 (66,XS 73 true 2),
 (67,⟨.map 9 3,1,8,.map none,[.nilm]⟩),
 (69,Oz 168 #[fp "weftway/lower" "p" 24 0 0,fp "weftway/lower" "u" 28 1 24,fp "weftway/lower" "left" 66 4 80,fp "weftway/lower" "f" 40 5 104,fp "weftway/lower" "slots" 67 9 160] [.nils true 16,.nils true 4,zi,.nils true 16,.nils true 2,zs,zi,zi,.nils true 9,.nilm]),
 (73,Oz 48 #[fp "weftway/lower" "names" 42 0 0,fp "weftway/lower" "body" 49 1 24] [.nils false 1,.nils true 15])]
theorem AAp:Bo Tryz.prog rE:=by repeat (any_goals first | exact trivial | kernel_rfl | constructor)
def rF:List (Nat×TI):=[(88,XS 96 true 3),
 (90,Oz 264 #[fd "Op" 5 0 0,fd "Name" 9 1 8,fd "Second" 9 2 24,fd "Names" 42 3 40,fd "Type" 48 4 64,fd "Int" 2 7 112,fd "Place" 51 8 120,fd "Exprs" 52 10 160,fd "Body" 49 11 184,fd "Else" 49 12 208,fd "Arms" 88 13 232,fd "At" 3 14 256] [zu,zs,zs,.nils false 1,zu,zs,.nils true 3,zi,zs,.nils false 1,.nils true 8,.nils true 15,.nils true 15,.nils true 3,zi])]
theorem AAq:Bo Tryz.prog rF:=by repeat (any_goals first | exact trivial | kernel_rfl | constructor)
def rG:List (Nat×TI):=[(96,Oz 56 #[fd "Variant" 9 0 0,fd "Name" 9 1 16,fd "Body" 49 2 32] [zs,zs,.nils true 15]),
 (98,⟨.func #[9] #[4] false,1,8,.nilFunc,[.nilf]⟩),
 (101,Oz 64 #[fp "weftway/code" "text" 9 0 0,fp "weftway/code" "a" 3 1 16,fp "weftway/code" "b" 3 2 24,fp "weftway/code" "path" 4 3 32,fp "weftway/code" "slots" 4 4 33,fp "weftway/code" "wide" 4 5 34,fp "weftway/code" "name" 4 6 35,fp "weftway/code" "kinds" 41 7 40] [zs,zi,zi,zb,zb,zb,zb,.nils false 1]),
 (104,⟨.func #[4,9] #[] false,1,8,.nilFunc,[.nilf]⟩)]
theorem AAr:Bo Tryz.prog rG:=by repeat (any_goals first | exact trivial | kernel_rfl | constructor)
def rH:List (Nat×TI):=[(117,⟨.pointer 119,1,8,.pointer none,[.nilp]⟩),
 (119,Oz 8 #[fd "Left" 3 0 0] [zi]),
 (126,Oz 16 #[fd "Err" 29 0 0,fd "At" 3 1 8] [zi,zi]),
 (127,⟨.pointer 130,1,8,.pointer none,[.nilp]⟩)]
theorem AAs:Bo Tryz.prog rH:=by repeat (any_goals first | exact trivial | kernel_rfl | constructor)
def rI:List (Nat×TI):=[(128,⟨.map 9 56,1,8,.map none,[.nilm]⟩),
 (130,Oz 40 #[fp "weftway/names" "types" 128 0 0,fp "weftway/names" "fns" 128 1 8,fp "weftway/names" "faults" 63 2 16] [.nilm,.nilm,.nils true 2]),
 (131,XS 4 false 1),
 (136,⟨.pointer 142,1,8,.pointer none,[.nilp]⟩),
 (139,Oz 1 #[fp "weftway/names" "there" 4 0 0] [zb]),
 (140,⟨.map 9 139,1,8,.map none,[.nilm]⟩),
 (142,Oz 32 #[⟨"look",127,0,true, "", "weftway/names",0⟩,fp "weftway/names" "made" 140 1 8,fp "weftway/names" "count" 3 2 16,fp "weftway/names" "open" 3 3 24] [.nilp,.nilm,zi,zi])]
theorem AAt:Bo Tryz.prog rI:=by repeat (any_goals first | exact trivial | kernel_rfl | constructor)
def iE:List (Nat×TI):=[(161,⟨.func #[56] #[4] false,1,8,.nilFunc,[.nilf]⟩),
 (163,⟨.func #[3] #[4] false,1,8,.nilFunc,[.nilf]⟩),
 (168,ra 35 101 2240 [zs,zi,zi,zb,zb,zb,zb,.nils false 1])]
theorem uA:Bo Tryz.prog iE:=by repeat (any_goals first | exact trivial | kernel_rfl | constructor)
def iG:List (Nat×TI):=[(188,XS 1 false 1),
 (190,⟨.func #[54] #[4] false,1,8,.nilFunc,[.nilf]⟩)]
theorem uB:Bo Tryz.prog iG:=by repeat (any_goals first | exact trivial | kernel_rfl | constructor)
def iH:List (Nat×TI):=[(192,⟨.func #[65,54] #[] false,1,8,.nilFunc,[.nilf]⟩),
 (193,ra 37 192 296 [.nilf]),
 (195,⟨.func #[233] #[] false,1,8,.nilFunc,[.nilf]⟩),
 (196,⟨.func #[233] #[] false,1,8,.nilFunc,[.nilf]⟩)]
theorem uC:Bo Tryz.prog iH:=by repeat (any_goals first | exact trivial | kernel_rfl | constructor)
def iI:List (Nat×TI):=[(219,⟨.func #[58] #[4] false,1,8,.nilFunc,[.nilf]⟩),
 (220,⟨.func #[98,4] #[4] false,1,8,.nilFunc,[.nilf]⟩),
 (221,⟨.func #[54,54] #[4] false,1,8,.nilFunc,[.nilf]⟩)]
theorem uD:Bo Tryz.prog iI:=by repeat (any_goals first | exact trivial | kernel_rfl | constructor)
def iJ:List (Nat×TI):=[(225,⟨.func #[90] #[4] false,1,8,.nilFunc,[.nilf]⟩),
 (233,⟨.func #[3,9] #[4] false,1,8,.nilFunc,[.nilf]⟩)]
theorem uE:Bo Tryz.prog iJ:=by repeat (any_goals first | exact trivial | kernel_rfl | constructor)
def iK:List (Nat×TI):=[(252,⟨.func #[5] #[4] false,1,8,.nilFunc,[.nilf]⟩),
 (254,Oz 24 #[fp "weftway/tree" "place" 4 0 0,fp "weftway/tree" "least" 3 1 8,fp "weftway/tree" "most" 3 2 16] [zb,zi,zi])]
theorem uF:Bo Tryz.prog iK:=by repeat (any_goals first | exact trivial | kernel_rfl | constructor)
def iL:List (Nat×TI):=[(260,Oz 40 #[fp "weftway/tree" "names" 3 0 0,fp "weftway/tree" "exprs" 3 1 8,fp "weftway/tree" "typed" 4 2 16,fp "weftway/tree" "placed" 4 3 17,fp "weftway/tree" "body" 4 4 18,fp "weftway/tree" "other" 4 5 19,fp "weftway/tree" "arms" 4 6 20,fp "weftway/tree" "lent" 4 7 21,fp "weftway/tree" "name" 98 8 24,fp "weftway/tree" "second" 98 9 32] [zi,zi,zb,zb,zb,zb,zb,zb,.nilf,.nilf]),
 (271,⟨.map 5 5,1,8,.map none,[.nilm]⟩)]
theorem uG:Bo Tryz.prog iL:=by repeat (any_goals first | exact trivial | kernel_rfl | constructor)
def iM:List (List (Nat×TI)):=[rA,rB,rC,rD,rE,rF,rG,rH,rI,[],iE,iG,iH,iI,iJ,iK,iL]
def Ab:Types:=XR iM
theorem XT:GB Tryz.prog iM:=⟨AAl,AAm,AAn,AAo,AAp,AAq,AAr,AAs,AAt,trivial,uA,uB,uC,uD,uE,uF,uG,trivial⟩
theorem GY:Ay Tryz.prog Ab:=iC XT
theorem FL:BH Ab:=Yh XT
end Go.Proofs.YtjfmnfncmfepnaaGreatDoor
namespace Go.AM
open Go Go.RowKit
def JC (acc:List Nat):List Edge→Nat
 | []=>0
 | e::r=>match Region.binds .any e with
  | true=>Nat.lor (Nat.lor (2 ^ e.on) (acc.getD e.on 0)) (JC acc r)
  | false=>JC acc r
def iP:List Oper→List Nat→List Nat
 | [],acc=>acc
 | o::r,acc=>iP r (acc++[JC acc o.after.toList])
inductive GC (ops:List Oper):Nat→Nat→Prop where
 | edge {i j:Nat} {o:Oper} {e:Edge} (hj:ops[j]?=some o) (he:e∈o.after.toList) (hb:Region.binds .any e=true) (hi:e.on=i):GC ops i j
 | trans {i j k:Nat} (h1:GC ops i j) (h2:GC ops j k):GC ops i k
theorem NR {ops:List Oper}{acc:List Nat}{j:Nat}{o:Oper}(hj:ops[j]?=some o) (hacc:∀k i,(acc.getD k 0).testBit i=true→GC ops i k):
  ∀(l:List Edge),(∀e∈l,e∈o.after.toList)→∀i,(JC acc l).testBit i=true→GC ops i j
 | [],_,i,h=>by simp[JC]at h
 | e::r,hl,i,h=>by
  have ih:=NR hj hacc r (fun e he=>hl e (List.mem_cons_of_mem _ he)) i
  unfold JC at h;split at h
  ·rename_i hb;rw[show ∀a b:Nat,Nat.lor a b=a ||| b from fun _ _=>rfl,show ∀a b:Nat,Nat.lor a b=a ||| b from fun _ _=>rfl]at h
   simp only[Nat.testBit_or,Bool.or_eq_true,Nat.testBit_two_pow,decide_eq_true_eq]at h;rcases h with (h | h) | h
   ·exact .edge hj (hl e (by simp)) hb h
   ·exact .trans (hacc _ i h) (.edge hj (hl e (by simp)) hb rfl)
   ·exact ih h
  ·exact ih h
theorem PY {ops:List Oper}:∀(l:List Oper) (acc:List Nat),ops.drop acc.length=l→(∀k i,(acc.getD k 0).testBit i=true→GC ops i k)→
  ∀k i,((iP l acc).getD k 0).testBit i=true→GC ops i k
 | [],acc,_,hacc,k,i,h=>hacc k i h
 | o::r,acc,hl,hacc,k,i,h=>by
  have hj:ops[acc.length]?=some o:=by
   have:=congrArg (fun l=>l[0]?) hl
   simpa using this
  refine PY r (acc++[JC acc o.after.toList]) ?_ ?_ k i h
  ·have:=congrArg List.tail hl;simpa using this
  ·intro k i hk
   by_cases h1:k<acc.length
   ·grind
   ·by_cases h2:k=acc.length
    ·subst h2;refine NR hj hacc o.after.toList (fun e he=>he) i ?_
     simp_all
    grind
def tmpsOf:List Operand→List Nat
 | []=>[]
 | .tmp t::r=>t::tmpsOf r
 | _::r=>tmpsOf r
def HT (ops:Array Oper) (o:Oper):List Nat:=
 tmpsOf o.op.operands.toList++(match o.guard with
  | some (j,_)=>((ops[j]?).bind (·.dst)).toList
  | none=>[])
def meet (a b:List Nat):Bool:=a.any fun x=>b.any fun y=>Nat.beq x y
def S5 (a b:List Id):Bool:=a.any fun x=>b.any fun y=>Id.beq x y
def E4 (ops:Array Oper) (a b:Oper):Bool:=
 meet a.dst.toList (HT ops b) || meet a.dst.toList b.dst.toList || meet (HT ops a) b.dst.toList
abbrev Fp:=List Id×List Id
def JD (a b:Fp):Bool:=S5 a.2 b.1 || S5 a.2 b.2 || S5 a.1 b.2
def XU (ops:Array Oper) (ms:List Nat) (l:List (Nat×Oper×Fp)):Bool:=
 l.all fun x=>l.all fun y=>!(Nat.blt x.1 y.1) || !(E4 ops x.2.1 y.2.1 || JD x.2.2 y.2.2) || (ms.getD y.1 0).testBit x.1
def Qj:List Oper→Nat→Bool
 | [],_=>true
 | o::r,i=>o.after.toList.all (fun e=>!(Region.binds .any e) || Nat.blt e.on i)&&Qj r (i+1)
def number:List Oper→List Fp→Nat→List (Nat×Oper×Fp)
 | o::r,f::fs,i=>(i,o,f)::number r fs (i+1)
 | _,_,_=>[]
def iQ (ops:Array Oper) (fps:List Fp):Bool:=
 Nat.beq fps.length ops.size&&(Qj ops.toList 0&&XU ops (iP ops.toList []) (number ops.toList fps 0))
def D9 (M:Aw) (ti:Types) (nt:Nat) (ops:Array Oper) (base:Nat):List Oper→Nat→St→List Fp→(St→List Fp→Prop)→Prop
 | [],i,σ,fps,K=>K ⟨σ.slots,σ.heap,base+32*i⟩ fps
 | o::r,i,σ,fps,K=>guarded ops o σ
   (fun σ1=>FK o<| G6 nt o.dst<| Dg M ti o (base+32*i) (AQ σ1.slots) (AJ σ1.heap) fun out=>
    D9 M ti nt ops base r (i+1) ⟨Cr σ1.slots o.dst out.val,Cg σ1.heap out.wr,σ1.next⟩ (fps++[(out.rd,out.wr.map (·.1))]) K)
   (fun σ1=>G6 nt o.dst (D9 M ti nt ops base r (i+1) ⟨Cr σ1.slots o.dst (.t []),σ1.heap,σ1.next⟩ (fps++[([],[])]) K))
def BK (ti:Types) (M:Aw) (nt:Nat) (ops:Array Oper) (σ:St) (K:St→Prop):Prop:=
 D9 M ti nt ops σ.next ops.toList 0 σ [] fun σ' fps=>M.lock (fun _=>iQ ops fps=true)∧K σ'
structure MY where
 o:Oper
 run:Bool
 val:AV
 rd:List Id
 wr:List (Id×AD)
def Dh (ops:Array Oper) (e:MY) (s:AL):Prop:=
 match e.o.guard with
 | none=>e.run=true
 | some (j,want)=>∃d,(ops[j]?).bind (·.dst)=some d∧(s d= .v (.d (.bool (if e.run then want else !want)))∨(e.run=false∧s d= .t []))
def S6 (C:Cx) (ops:Array Oper) (base:Nat):List MY→Nat→AL→Heap→Prop
 | [],_,_,_=>True
 | e::r,i,s,h=>ops[i]?=some e.o∧(∀d,e.o.dst=some d→d<C.nt)∧Dh ops e s∧(e.run=true→(∀c,e.o.op≠ .defer c)∧BN C e.o (base+32*i) s h ⟨e.val,e.rd,e.wr⟩)∧
   (e.run=false→e.val= .t []∧e.wr=[]∧e.rd=[])∧S6 C ops base r (i+1) (CR s e.o.dst e.val) (Az h e.wr)
def VQ:List MY→AL→AL
 | [],s=>s
 | e::r,s=>VQ r (CR s e.o.dst e.val)
def VR:List MY→Heap→Heap
 | [],h=>h
 | e::r,h=>VR r (Az h e.wr)
section
variable {C:Cx}{ti:Types}
theorem GZ (hti:Ay C.P ti) (h1:BH ti) {ops:Array Oper}{base:Nat}{K:St→List Fp→Prop}:∀(l:List Oper) (i:Nat) (σ:St) (fps:List Fp),
  ops.toList.drop i=l→D9 C.M ti C.nt ops base l i σ fps K→
  ∃(es:List MY) (σ':St),es.map (·.o)=l∧S6 C ops base es i (AQ σ.slots) (AJ σ.heap)∧AQ σ'.slots=VQ es (AQ σ.slots)∧AJ σ'.heap=VR es (AJ σ.heap)∧
   σ'.next=base+32*(i+l.length)∧K σ' (fps++es.map fun e=>(e.rd,e.wr.map (·.1)))
 | [],i,σ,fps,_,hk=>⟨[],⟨σ.slots,σ.heap,base+32*i⟩,rfl,trivial,rfl,rfl,by simp,by simpa using (show K ⟨σ.slots,σ.heap,base+32*i⟩ fps from hk)⟩
 | o::r,i,σ,fps,hl,hk=>by
  have hi:ops[i]?=some o:=by
   have:=congrArg (fun l=>l[0]?) hl
   simpa using this
  have hr:ops.toList.drop (i+1)=r:=by
   have:=congrArg List.tail hl;simpa using this
  have run:∀(g:Dh ops ⟨o,true,.u,[],[]⟩ (AQ σ.slots)),(FK o<| G6 C.nt o.dst<| Dg C.M ti o (base+32*i) (AQ σ.slots) (AJ σ.heap) fun out=>
    D9 C.M ti C.nt ops base r (i+1) ⟨Cr σ.slots o.dst out.val,Cg σ.heap out.wr,σ.next⟩ (fps++[(out.rd,out.wr.map (·.1))]) K)→
    ∃(es:List MY) (σ':St),es.map (·.o)=o::r∧S6 C ops base es i (AQ σ.slots) (AJ σ.heap)∧AQ σ'.slots=VQ es (AQ σ.slots)∧AJ σ'.heap=VR es (AJ σ.heap)∧
     σ'.next=base+32*(i+(o::r).length)∧K σ' (fps++es.map fun e=>(e.rd,e.wr.map (·.1))):=by
   intro g hk;obtain⟨hst,hnd,hk⟩:=Lj hk;obtain⟨hd,hk⟩:=IZ.1 hk;obtain⟨out,hk,hok⟩:=HR hti h1 hst.1 hst.2 hk;obtain⟨es,σ',e1,e2,e3,e4,e5,e6⟩:=GZ hti h1 r (i+1) _ _ hr hk;rw[C6]at e2 e3;rw[Ce]at e2 e4;refine⟨⟨o,true,out.val,out.rd,out.wr⟩::es,σ',by simp[e1],⟨hi,hd,g,fun _=>⟨hnd,hok⟩,fun e=>by simp at e,e2⟩,e3,e4,by rw[e5];simp;omega,?_⟩
   simpa using e6
  have skip:∀(g:Dh ops ⟨o,false,.t [],[],[]⟩ (AQ σ.slots)),(G6 C.nt o.dst (D9 C.M ti C.nt ops base r (i+1) ⟨Cr σ.slots o.dst (.t []),σ.heap,σ.next⟩ (fps++[([],[])]) K))→
    ∃(es:List MY) (σ':St),es.map (·.o)=o::r∧S6 C ops base es i (AQ σ.slots) (AJ σ.heap)∧AQ σ'.slots=VQ es (AQ σ.slots)∧AJ σ'.heap=VR es (AJ σ.heap)∧
     σ'.next=base+32*(i+(o::r).length)∧K σ' (fps++es.map fun e=>(e.rd,e.wr.map (·.1))):=by
   intro g hk;obtain⟨hd,hk⟩:=IZ.1 hk;obtain⟨es,σ',e1,e2,e3,e4,e5,e6⟩:=GZ hti h1 r (i+1) _ _ hr hk;rw[C6]at e2 e3;refine⟨⟨o,false,.t [],[],[]⟩::es,σ',by simp[e1],⟨hi,hd,g,fun e=>by simp at e,fun _=>⟨rfl,rfl,rfl⟩,e2⟩,e3,e4,by rw[e5];simp;omega,?_⟩
   simpa using e6
  have hk':guarded ops o σ _ _:=hk;unfold guarded at hk';split at hk'
  ·rename_i hg;exact run (by simp[Dh,hg]) hk'
  ·rename_i j want hg;split at hk'
   ·exact hk'.elim
   ·rename_i d hd;split at hk'
    ·rename_i c hc;cases want<;>cases c
     ·exact run (by simp only[Dh,hg];simp_all) hk'
     ·exact skip (by simp only[Dh,hg];simp_all) hk'
     ·exact skip (by simp only[Dh,hg];simp_all) hk'
     ·exact run (by simp only[Dh,hg];simp_all) hk'
    ·rename_i hc;exact skip (by simp only[Dh,hg];simp_all) hk'
    ·exact hk'.elim
def Di (S:Nat→Bool):List MY→Nat→AL→AL
 | [],_,s=>s
 | e::r,i,s=>Di S r (i+1) (if S i then CR s e.o.dst e.val else s)
def B8 (S:Nat→Bool):List MY→Nat→Heap→Heap
 | [],_,h=>h
 | e::r,i,h=>B8 S r (i+1) (if S i then Az h e.wr else h)
theorem nX {s s':AL}{d:Option Tmp}{v:AV}{t:Nat}(h:d≠some t→s t=s' t):CR s d v t=CR s' d v t:=by
 cases d with
 | none=>exact h (by simp)
 | some d=>
  simp only[CR];grind
theorem J4 {s:AL}{d:Option Tmp}{v:AV}{t:Nat}(h:d≠some t):CR s d v t=s t:=by
 cases d with
 | none=>rfl
 | some d=>
  simp only[CR];rw[if_neg];grind
theorem XV {h h':Heap}{i:Id}:∀{wr:List (Id×AD)},(i∉wr.map (·.1)→h i=h' i)→Az h wr i=Az h' wr i:=by
 intro wr
 induction wr generalizing h h' with
 | nil=>intro hh;exact hh (by simp)
 | cons x wr ih=>
  intro hh;refine ih fun hn=>?_
  simp only[AK];simp_all
theorem Ga {S S':Nat→Bool}{t:Nat}:∀(es:List MY) (i:Nat) (s s':AL),s t=s' t→(∀k e,es[k]?=some e→e.o.dst=some t→S (i+k)=S' (i+k))→
  Di S es i s t=Di S' es i s' t
 | [],i,s,s',h,_=>h
 | e::r,i,s,s',h,hw=>by
  refine Ga r (i+1) _ _ ?_ (fun k e' hk hd=>by have:=hw (k+1) e' (by simpa using hk) hd;grind)
  by_cases hd:e.o.dst=some t
  ·have:=hw 0 e rfl hd;simp only[Nat.add_zero]at this;rw[this];cases S' i
   ·exact h
   ·exact nX (fun _=>h)
  ·cases S i<;>cases S' i<;>simp[J4 hd,h]
theorem FM {S S':Nat→Bool}{x:Id}:∀(es:List MY) (i:Nat) (h h':Heap),h x=h' x→(∀k e,es[k]?=some e→x∈e.wr.map (·.1)→S (i+k)=S' (i+k))→
  B8 S es i h x=B8 S' es i h' x
 | [],i,h,h',hh,_=>hh
 | e::r,i,h,h',hh,hw=>by
  refine FM r (i+1) _ _ ?_ (fun k e' hk hd=>by have:=hw (k+1) e' (by simpa using hk) hd;grind)
  by_cases hd:x∈e.wr.map (·.1)
  ·have:=hw 0 e rfl hd;simp only[Nat.add_zero]at this;rw[this];cases S' i
   ·exact hh
   ·exact XV (fun _=>hh)
  ·have e1:Az h e.wr x=h x:=DN hd;have e2:Az h' e.wr x=h' x:=DN hd;cases S i<;>cases S' i<;>simp[e1,e2,hh]
theorem S7 {S S':Nat→Bool}{t:Nat}{n:Nat}{en:MY}:∀(es:List MY) (i:Nat) (s:AL),es[n]?=some en→S (i+n)=false→S' (i+n)=true→(∀k,k≠i+n→S' k=S k)→
  (en.o.dst=some t→∀k e,es[k]?=some e→e.o.dst=some t→n<k→S (i+k)=false)→Di S' es i s t=CR (Di S es i s) en.o.dst en.val t
 | [],i,s,hn,_,_,_,_=>by simp at hn
 | e::r,i,s,hn,h0,h1,hS,hb=>by
  cases n with
  | zero=>
   simp at hn;subst hn;simp only[Nat.add_zero]at h0 h1;show Di S' r (i+1) (if S' i then CR s e.o.dst e.val else s) t=CR (Di S r (i+1) (if S i then CR s e.o.dst e.val else s)) e.o.dst e.val t
   rw[h0,h1];simp only[if_true,Bool.false_eq_true,if_false];have same:∀s',Di S' r (i+1) s' t=Di S r (i+1) s' t:=fun s'=>Ga r (i+1) s' s' rfl (fun k e' _ _=>hS _ (by omega))
   rw[same]
   by_cases hd:e.o.dst=some t
   ·have none:∀s':AL,Di S r (i+1) s' t=s' t:=by
     intro s'
     have z:∀(l:List MY) (m:Nat) (s':AL),(∀k e,l[k]?=some e→e.o.dst=some t→S (m+k)=false)→Di S l m s' t=s' t:=by
      intro l
      induction l with
      | nil=>intro m s' _;rfl
      | cons e l ih=>
       intro m s' hz;show Di S l (m+1) (if S m then CR s' e.o.dst e.val else s') t=_
       rw[ih (m+1) _ (fun k e' hk hd=>by have:=hz (k+1) e' (by simpa using hk) hd;grind)]
       by_cases hd:e.o.dst=some t
       ·have:=hz 0 e rfl hd;simp_all
       ·split
        ·exact J4 hd
        ·rfl
     exact z r (i+1) s' (fun k e' hk hd'=>by
      have:=hb hd (k+1) e' (by simpa using hk) hd' (by omega)
      grind)
    rw[none,hd];simp[CR]
   ·rw[J4 hd];exact Ga r (i+1) _ _ (J4 hd) (fun _ _ _ _=>rfl)
  | succ n=>
   have e1:S' i=S i:=hS i (by omega)
   show Di S' r (i+1) (if S' i then CR s e.o.dst e.val else s) t=_
   rw[e1]
   refine S7 r (i+1) _ (by simpa using hn) (by grind) (by grind)
    (fun k hk=>hS k (by omega)) (fun hd k e' hk hd' hlt=>?_)
   have:=hb hd (k+1) e' (by simpa using hk) hd' (by omega)
   grind
theorem PZ {S S':Nat→Bool}{x:Id}{n:Nat}{en:MY}:∀(es:List MY) (i:Nat) (s:Heap),es[n]?=some en→S (i+n)=false→S' (i+n)=true→(∀k,k≠i+n→S' k=S k)→
  (x∈en.wr.map (·.1)→∀k e,es[k]?=some e→x∈e.wr.map (·.1)→n<k→S (i+k)=false)→B8 S' es i s x=Az (B8 S es i s) en.wr x
 | [],i,s,hn,_,_,_,_=>by simp at hn
 | e::r,i,s,hn,h0,h1,hS,hb=>by
  cases n with
  | zero=>
   simp at hn;subst hn;simp only[Nat.add_zero]at h0 h1;show B8 S' r (i+1) (if S' i then Az s e.wr else s) x=Az (B8 S r (i+1) (if S i then Az s e.wr else s)) e.wr x
   rw[h0,h1];simp only[if_true,Bool.false_eq_true,if_false];have same:∀s',B8 S' r (i+1) s' x=B8 S r (i+1) s' x:=fun s'=>FM r (i+1) s' s' rfl (fun k e' _ _=>hS _ (by omega))
   rw[same]
   by_cases hd:x∈e.wr.map (·.1)
   ·have none:∀s':Heap,B8 S r (i+1) s' x=s' x:=by
     intro s'
     have z:∀(l:List MY) (m:Nat) (s':Heap),(∀k e,l[k]?=some e→x∈e.wr.map (·.1)→S (m+k)=false)→B8 S l m s' x=s' x:=by
      intro l
      induction l with
      | nil=>intro m s' _;rfl
      | cons e l ih=>
       intro m s' hz;show B8 S l (m+1) (if S m then Az s' e.wr else s') x=_
       rw[ih (m+1) _ (fun k e' hk hd=>by have:=hz (k+1) e' (by simpa using hk) hd;grind)]
       by_cases hd:x∈e.wr.map (·.1)
       ·have:=hz 0 e rfl hd;simp_all
       ·split
        ·exact DN hd
        ·rfl
     exact z r (i+1) s' (fun k e' hk hd'=>by
      have:=hb hd (k+1) e' (by simpa using hk) hd' (by omega)
      grind)
    rw[none];exact XV (fun hn=>absurd hd hn)
   ·rw[DN hd];exact FM r (i+1) _ _ (DN hd) (fun _ _ _ _=>rfl)
  | succ n=>
   have e1:S' i=S i:=hS i (by omega)
   show B8 S' r (i+1) (if S' i then Az s e.wr else s) x=_
   rw[e1]
   refine PZ r (i+1) _ (by simpa using hn) (by grind) (by grind)
    (fun k hk=>hS k (by omega)) (fun hd k e' hk hd' hlt=>?_)
   have:=hb hd (k+1) e' (by simpa using hk) hd' (by omega)
   grind
end
end Go.AM
namespace Go.AM
open Go Go.RowKit
section
variable {C:Cx}{ti:Types}
theorem Kr {S:Nat→Bool}:∀(es:List MY) (i:Nat) (s:AL),(∀k,i≤k→S k=false)→Di S es i s=s
 | [],_,_,_=>rfl
 | e::r,i,s,h=>by
  show Di S r (i+1) (if S i then _ else s)=s
  rw[h i (Nat.le_refl _)];exact Kr r (i+1) s (fun k hk=>h k (by omega))
theorem JE {S:Nat→Bool}:∀(es:List MY) (i:Nat) (s:Heap),(∀k,i≤k→S k=false)→B8 S es i s=s
 | [],_,_,_=>rfl
 | e::r,i,s,h=>by
  show B8 S r (i+1) (if S i then _ else s)=s
  rw[h i (Nat.le_refl _)];exact JE r (i+1) s (fun k hk=>h k (by omega))
theorem S8 {S:Nat→Bool}:∀(es:List MY) (i:Nat) (s:AL),(∀k,k<es.length→S (i+k)=true)→Di S es i s=VQ es s
 | [],_,_,_=>rfl
 | e::r,i,s,h=>by
  show Di S r (i+1) (if S i then _ else s)=VQ r _
  rw[show S i=true from h 0 (by simp)]
  exact S8 r (i+1) _ (fun k hk=>by have:=h (k+1) (by simp;omega);grind)
theorem Pa {S:Nat→Bool}:∀(es:List MY) (i:Nat) (s:Heap),(∀k,k<es.length→S (i+k)=true)→B8 S es i s=VR es s
 | [],_,_,_=>rfl
 | e::r,i,s,h=>by
  show B8 S r (i+1) (if S i then _ else s)=VR r _
  rw[show S i=true from h 0 (by simp)]
  exact Pa r (i+1) _ (fun k hk=>by have:=h (k+1) (by simp;omega);grind)
def AAu (C:Cx) (ops:Array Oper) (base:Nat) (e:MY) (i:Nat) (s:AL) (h:Heap):Prop:=
 ops[i]?=some e.o∧(∀d,e.o.dst=some d→d<C.nt)∧Dh ops e s∧(e.run=true→(∀c,e.o.op≠ .defer c)∧BN C e.o (base+32*i) s h ⟨e.val,e.rd,e.wr⟩)∧
   (e.run=false→e.val= .t []∧e.wr=[]∧e.rd=[])
theorem AAv {ops:Array Oper}{base:Nat}(es:List MY):∀(m n:Nat) (s:AL) (h:Heap) (e:MY),S6 C ops base es m s h→es[n]?=some e→
  AAu C ops base e (m+n) (Di (fun k=>decide (k<m+n)) es m s) (B8 (fun k=>decide (k<m+n)) es m h):=by
 induction es with
 | nil=>simp_all
 | cons x r ih=>
  intro m n s h e hl hn;cases n with
  | zero=>
   simp at hn;subst hn;have e1:Di (fun k=>decide (k<m+0)) (x::r) m s=s:=Kr _ _ _ (fun k hk=>by simp;omega)
   have e2:B8 (fun k=>decide (k<m+0)) (x::r) m h=h:=JE _ _ _ (fun k hk=>by simp;omega)
   rw[e1,e2];exact⟨hl.1,hl.2.1,hl.2.2.1,hl.2.2.2.1,hl.2.2.2.2.1⟩
  | succ n=>
   have:=ih (m+1) n _ _ e hl.2.2.2.2.2 (by simpa using hn)
   rw[show m+1+n=m+(n+1)from by omega]at this
   have e1:Di (fun k=>decide (k<m+(n+1))) (x::r) m s=Di (fun k=>decide (k<m+(n+1))) r (m+1) (CR s x.o.dst x.val):=by
    show Di _ r (m+1) (if decide (m<m+(n+1))then _ else _)=_
    rw[if_pos (by simp)]
   have e2:B8 (fun k=>decide (k<m+(n+1))) (x::r) m h=B8 (fun k=>decide (k<m+(n+1))) r (m+1) (Az h x.wr):=by
    show B8 _ r (m+1) (if decide (m<m+(n+1))then _ else _)=_
    rw[if_pos (by simp)]
   simp_all
theorem AY.drew {F:Nat→Prop}{s:AL}{h:Heap}{g:AP}{a:Act}{w:World}(R:AY C F s h g a w):AY C F s h g a {w with drawn:=w.drawn+1}:=by
 have E:HC w (Av (zone g h) C.X) g h {w with drawn:=w.drawn+1} (Av (zone g h) C.X) g h:=
  ⟨fun b o u hu hz=>⟨hu,hz⟩,fun _ _ _=>rfl,fun _ _ _=>rfl,fun _ hi=>hi,fun i n sz e _ hn=>⟨n,Nat.le_refl _,hn,fun _=>rfl⟩,fun _ hi=>hi,fun i _ hn=>⟨hn,rfl⟩⟩
 refine R.step (fun _=>False) E ⟨rfl,rfl,rfl,Nat.le_refl _,fun _ _ _=>rfl,fun _ _ _ hu _=>hu⟩ (fun _ _=>⟨rfl,rfl⟩) (fun _ _ _ _ _ _=>rfl) (fun _ _ h=>h.elim) (fun _ _ _ _ h=>h.elim)
  (fun _ _ _ _ _ h=>h.elim) (fun _ h=>h.elim) R.free
theorem filter_one {p p':Nat→Bool}{i:Nat}:∀{l:List Nat},l.Nodup→i∈l→p i=true→p' i=false→(∀k,k≠i→p' k=p k)→(l.filter p').length+1=(l.filter p).length
 | x::l,hn,hi,h1,h0,hs=>by
  have hn':=List.nodup_cons.1 hn
  by_cases hx:x=i
  ·subst hx;have:l.filter p'=l.filter p:=List.filter_congr fun k hk=>hs k (fun e=>hn'.1 (e▸hk))
   simp[h1,h0,this]
  ·have hil:i∈l:=(List.mem_cons.1 hi).resolve_left (fun e=>hx e.symm)
   have ih:=filter_one hn'.2 hil h1 h0 hs;grind
theorem NS {a b:List Nat}{x:Nat}(ha:x∈a) (hb:x∈b):meet a b=true:=by
 simp only[meet,List.any_eq_true];exact⟨x,ha,x,hb,by simp⟩
theorem Kt {a b:List Id}{x:Id}(ha:x∈a) (hb:x∈b):S5 a b=true:=by
 simp only[S5,List.any_eq_true];exact⟨x,ha,x,hb,Id.beq_iff.2 rfl⟩
theorem E5 {t:Nat}:∀{l:List Operand},Operand.tmp t∈l→t∈tmpsOf l
 | .tmp x::l,h=>by
  rcases List.mem_cons.1 h with h | h
  ·simp at h;subst h;simp[tmpsOf]
  ·simp[tmpsOf,E5 h]
 | .const v::l,h=>by simp[tmpsOf,E5 ((List.mem_cons.1 h).resolve_left (by simp))]
 | .global v::l,h=>by simp[tmpsOf,E5 ((List.mem_cons.1 h).resolve_left (by simp))]
 | .func v::l,h=>by simp[tmpsOf,E5 ((List.mem_cons.1 h).resolve_left (by simp))]
theorem NT (l:List Oper):∀(fs:List Fp) (i n:Nat) (o:Oper) (f:Fp),l[n]?=some o→fs[n]?=some f→(i+n,o,f)∈number l fs i:=by
 induction l with
 | nil=>simp_all
 | cons x l ih=>
  intro fs i n o f h1 h2;cases fs with
  | nil=>simp at h2
  | cons y fs=>
   cases n with
   | zero=>simp at h1 h2;subst h1;subst h2;simp[number]
   | succ n=>
    simp at h1 h2;have:=ih fs (i+1) n o f h1 h2;rw[show i+1+n=i+(n+1)from by omega]at this
    simp[number,this]
theorem VS (l:List Oper):∀(i n:Nat) (o:Oper) (e:Edge),Qj l i=true→l[n]?=some o→e∈o.after.toList→Region.binds .any e=true→e.on<i+n:=by
 induction l with
 | nil=>simp_all
 | cons x l ih=>
  intro i n o e h h1 he hb;simp only[Qj,Bool.and_eq_true,List.all_eq_true]at h;cases n with
  | zero=>
   simp at h1;subst h1;have:=h.1 e he;simpa [hb] using this
  | succ n=>
   grind
theorem iR (hti:Ay C.P ti) (h1:BH ti) (ops:Array Oper) (σ:St) (K:St→Prop) (Q:Exit→Act→World→Prop) (a:Act) (w:World)
  (hQ:∀σ a w,K σ→Bx C σ a w→Q .normal a w) (hk:BK ti C.M C.nt ops σ K) (R:Bx C σ a w):
  wpAnyIn (BM C.ro) 0 C.P .any ops Q ops.size (Array.replicate ops.size false) a {w with drawn:=w.drawn+1}:=by
 obtain⟨es,σ',e1,hlex,e3,e4,e5,hlock,hK⟩:=GZ hti h1 ops.toList 0 σ [] rfl hk;have hB:=(C.M.lock_iff _).1 hlock;simp only[List.nil_append]at hB;simp only[iQ,Bool.and_eq_true,Nat.beq_eq]at hB;obtain⟨hlen,hback,hpairs⟩:=hB;have hlen:es.length=ops.size:=by simp_all
 have hes:∀(n:Nat) e,es[n]?=some e→ops.toList[n]?=some e.o:=by
  grind
 have ahead:∀(i j:Nat) ei ej,es[i]?=some ei→es[j]?=some ej→i<j→(E4 ops ei.o ej.o || JD (ei.rd,ei.wr.map (·.1)) (ej.rd,ej.wr.map (·.1)))=true→GC ops.toList i j:=by
  intro i j ei ej hi hj hlt hc;have m1:=NT ops.toList (es.map fun e=>(e.rd,e.wr.map (·.1))) 0 i _ _ (hes i ei hi) (by simp[hi];rfl)
  have m2:=NT ops.toList (es.map fun e=>(e.rd,e.wr.map (·.1))) 0 j _ _ (hes j ej hj) (by simp[hj];rfl)
  simp only[XU,List.all_eq_true]at hpairs;have:=hpairs _ m1 _ m2;simp only[Nat.zero_add]at this;have hb:Nat.blt i j=true:=by simpa using hlt
  rw[hb,hc]at this;simp only[Bool.not_true,Bool.false_or]at this;exact PY ops.toList [] rfl (by simp[List.getD]) j i this
 let s0:=AQ σ.slots
 let h0:=AJ σ.heap
 let base:=σ.next
 let Sof:Array Bool→Nat→Bool:=fun listed k=>listed.getD k false
 have main:∀(fuel:Nat) (listed:Array Bool) (a:Act) (w:World),listed.size=ops.size→
   ((List.range ops.size).filter (fun k=>!Sof listed k)).length=fuel→
   (∀i j,GC ops.toList i j→Sof listed j=true→Sof listed i=true)→
   Rel C (fun n=>base≤n∧∀i,Sof listed i=true→¬(base+32*i≤n∧n<base+32*i+32)) (Di (Sof listed) es 0 s0) (B8 (Sof listed) es 0 h0) a w→
   wpAnyIn (BM C.ro) 0 C.P .any ops Q fuel listed a w:=by
  intro fuel
  induction fuel with
  | zero=>
   intro listed a w hsz hcnt hcl R
   have hall:∀k,k<ops.size→Sof listed k=true:=by
    simp_all
   refine⟨?_,?_⟩
   ·cases hr:Region.ready .any ops listed with
    | nil=>rfl
    | cons j l=>
     have hj:j∈Region.ready .any ops listed:=by rw[hr];simp
     obtain⟨h2,o,ho,_⟩:=mem_ready.1 hj;grind
   ·refine hQ σ' a w hK ?_;have:Bx C σ' a w↔Rel C (fun n=>σ'.next≤n) (AQ σ'.slots) (AJ σ'.heap) a w:=Iff.rfl
    rw[this,e3,e4,e5];have z1:Di (Sof listed) es 0 s0=VQ es s0:=S8 es 0 s0 (fun k hk=>by simp_all)
    have z2:B8 (Sof listed) es 0 h0=VR es h0:=Pa es 0 h0 (fun k hk=>by simp_all)
    rw[z1,z2]at R;refine R.Af (fun n hn=>?_)
    grind
  | succ fuel ih=>
   intro listed a w hsz hcnt hcl R
   have hstep:∀i,i∈Region.ready .any ops listed→wpOpIn (BM C.ro) 0 C.P ops Q i (wpAnyIn (BM C.ro) 0 C.P .any ops Q fuel (listed.setIfInBounds i true)) a w:=by
    intro i hi;obtain⟨hi0,o,ho,hedges⟩:=mem_ready.1 hi;have hlt:i<ops.size:=(Array.getElem?_eq_some_iff.1 ho).1;have hil:i<listed.size:=by omega
    have hS0:Sof listed i=false:=by
     grind
    have hS1:Sof (listed.setIfInBounds i true) i=true:=by simp[Sof,hil]
    have hSo:∀k,k≠i→Sof (listed.setIfInBounds i true) k=Sof listed k:=by
     intro k hk;simp[Sof,Array.getElem?_setIfInBounds_ne (Ne.symm hk)]
    obtain⟨en,hen⟩:∃en,es[i]?=some en:=⟨es[i],by simp[hlen,hlt]⟩
    have hEnt:=AAv es 0 i s0 h0 en hlex hen;rw[Nat.zero_add]at hEnt;obtain⟨ho',hd,hg,hrun,hskip⟩:=hEnt;rw[ho]at ho';obtain rfl:o=en.o:=by simpa using ho'
    -- who writes what i reads or writes
    have order:∀k e,es[k]?=some e→k≠i→(k<i→(E4 ops e.o en.o || JD (e.rd,e.wr.map (·.1)) (en.rd,en.wr.map (·.1)))=true)→
      (i<k→(E4 ops en.o e.o || JD (en.rd,en.wr.map (·.1)) (e.rd,e.wr.map (·.1)))=true)→Sof listed k=decide (k<i):=by
     intro k e he hne c1 c2
     by_cases hki:k<i
     ·have ah:=ahead k i e en he hen hki (c1 hki)
      have:Sof listed k=true:=by
       have gen:∀x y,GC ops.toList x y→y=i→Sof listed x=true:=by
        intro x y hxy
        induction hxy with
        | edge hj hee hb hei=>
         grind
        | trans p q ihp ihq=>
         grind
       exact gen k i ah rfl
      simp[this,hki]
     grind
    have slotAgree:∀t,t∈HT ops en.o→Di (Sof listed) es 0 s0 t=Di (fun k=>decide (k<i)) es 0 s0 t:=by
     intro t ht;refine Ga es 0 s0 s0 rfl (fun k e he hdst=>?_)
     rw[Nat.zero_add]
     by_cases hki:k=i
     ·subst hki;simp[hS0]
     ·refine order k e he hki (fun _=>?_) (fun _=>?_)
      ·simp[E4,NS (x:=t) (a:=e.o.dst.toList) (b:=HT ops en.o) (by simp[hdst]) ht]
      ·simp[E4,NS (x:=t) (a:=HT ops en.o) (b:=e.o.dst.toList) ht (by simp[hdst])]
    have idAgree:∀x,x∈en.rd→B8 (Sof listed) es 0 h0 x=B8 (fun k=>decide (k<i)) es 0 h0 x:=by
     intro x hx;refine FM es 0 h0 h0 rfl (fun k e he hw=>?_)
     rw[Nat.zero_add]
     by_cases hki:k=i
     ·subst hki;simp[hS0]
     ·refine order k e he hki (fun _=>?_) (fun _=>?_)
      ·simp[JD,Kt (x:=x) (a:=e.wr.map (·.1)) (b:=en.rd) hw hx]
      ·simp[JD,Kt (x:=x) (a:=en.rd) (b:=e.wr.map (·.1)) hx hw]
    have cl':∀x y,GC ops.toList x y→Sof (listed.setIfInBounds i true) y=true→Sof (listed.setIfInBounds i true) x=true:=by
     intro x y hxy hy
     by_cases hx:x=i
     ·rw[hx];exact hS1
     ·rw[hSo x hx]
      by_cases hyi:y=i
      ·subst hyi
       have gen:∀x y',GC ops.toList x y'→y'=y→Sof listed x=true:=by
        intro x y' hxy
        induction hxy with
        | edge hj hee hb hei=>
         grind
        | trans p q ihp ihq=>
         grind
       exact gen x y hxy rfl
      grind
    have cnt':((List.range ops.size).filter (fun k=>!Sof (listed.setIfInBounds i true) k)).length=fuel:=by
     have:=filter_one (p:=fun k=>!Sof listed k) (p':=fun k=>!Sof (listed.setIfInBounds i true) k) (i:=i) (l:=List.range ops.size) List.nodup_range (by simp[hlt]) (by simp[hS0]) (by simp[hS1])
      (fun k hk=>by simp[hSo k hk])
     omega
    have addS:Di (Sof (listed.setIfInBounds i true)) es 0 s0=CR (Di (Sof listed) es 0 s0) en.o.dst en.val:=by
     funext t;refine S7 es 0 s0 hen (by simpa using hS0) (by simpa using hS1) (fun k hk=>hSo k (by omega)) (fun hdst k e he hdst' hik=>?_)
     rw[Nat.zero_add];have:=order k e he (by omega) (fun h=>absurd h (by omega)) (fun _=>by simp[E4,NS (x:=t) (a:=en.o.dst.toList) (b:=e.o.dst.toList) (by simp[hdst]) (by simp[hdst'])])
     grind
    have addH:B8 (Sof (listed.setIfInBounds i true)) es 0 h0=Az (B8 (Sof listed) es 0 h0) en.wr:=by
     funext x;refine PZ es 0 h0 hen (by simpa using hS0) (by simpa using hS1) (fun k hk=>hSo k (by omega)) (fun hw k e he hw' hik=>?_)
     rw[Nat.zero_add];have:=order k e he (by omega) (fun h=>absurd h (by omega)) (fun _=>by simp[JD,Kt (x:=x) (a:=en.wr.map (·.1)) (b:=e.wr.map (·.1)) hw hw'])
     grind
    have next:∀a' w',Rel C (fun n=>(base≤n∧∀i,Sof listed i=true→¬(base+32*i≤n∧n<base+32*i+32))∧¬(base+32*i≤n∧n<base+32*i+32))
      (CR (Di (Sof listed) es 0 s0) en.o.dst en.val) (Az (B8 (Sof listed) es 0 h0) en.wr) a' w'→wpAnyIn (BM C.ro) 0 C.P .any ops Q fuel (listed.setIfInBounds i true) a' w':=by
     intro a' w' R';refine ih _ a' w' (by simp[hsz]) cnt' cl' ?_
     rw[addS,addH];refine R'.Af (fun n hn=>⟨⟨hn.1,fun j hj=>?_⟩,hn.2 i hS1⟩)
     grind
    have hw:Region.wanted en.o (yielded ops a.tmps)=en.run:=by
     unfold Dh at hg;split at hg
     ·rename_i hgn;simp[Region.wanted,hgn,hg]
     ·rename_i j want hgs;obtain⟨d,hdj,hsd⟩:=hg;have hmem:d∈HT ops en.o:=by simp[HT,hgs,hdj]
      rw[←slotAgree d hmem]at hsd;rcases hsd with hsd | ⟨hrf,hsd⟩
      rotate_left
      ·have hy:yielded ops a.tmps j=none:=by
        obtain⟨g,R⟩:=R;have:=R.slots d;rw[hsd]at this;obtain⟨vs,hv,_⟩:=this;exact J0 hdj ⟨vs,hv⟩
       simp[Region.wanted,hgs,hy,hrf]
      have hy:yielded ops a.tmps j=some (if en.run then want else !want):=by
       obtain⟨g,R⟩:=R;have:=R.slots d;rw[hsd]at this;have hv:=QQ this;unfold yielded;rw[hdj]
       have:a.tmps[d]?=some (.bool (if en.run then want else !want)):=by
        rw[Array.getD_eq_getD_getElem?]at hv;cases h:a.tmps[d]? with
        | none=>rw[h]at hv;simp[undef]at hv
        | some v=>grind
       simp[this]
      simp only[Region.wanted,hgs,hy];cases en.run<;>cases want<;>rfl
    unfold wpOpIn;rw[ho];simp only[];cases hr:en.run with
    | true=>
     rw[if_pos (by rw[hw,hr])]
     refine Ju (hrun hr).1 (Oper.wp_mono next ?_)
     refine (hrun hr).2 _ _ _ a w Q R (fun t ht=>slotAgree t (by simp[HT,E5 ht])) idAgree (fun k hk=>⟨by omega,fun j hj=>?_⟩) hd
     by_cases hji:j=i
     ·grind
     ·omega
    | false=>
     rw[if_neg (by rw[hw,hr];simp)]
     obtain⟨z1,z2,z3⟩:=hskip hr;refine⟨fun f _=>CS _ f,next _ w ?_⟩
     rw[z1,z2];obtain⟨g,R⟩:=R;refine⟨g,(R.put hd (v:=.t []) ⟨#[],rfl,rfl,by simp⟩).Af (fun n hn=>hn.1)⟩
   refine⟨fun hnil=>?_,hstep⟩
   -- not all are listed: the least of those is ready
   exfalso
   have hex:∃k,k<ops.size∧Sof listed k=false:=by
    have:(List.range ops.size).filter (fun k=>!Sof listed k)≠[]:=by grind
    simp_all
   obtain⟨k,⟨hk1,hk2⟩,hmin⟩:=least hex
   have:k∈Region.ready .any ops listed:=by
    refine mem_ready.2 ⟨?_,ops[k],by simp[hk1],fun e he hb=>?_⟩
    ·grind
    ·have hlt:e.on<0+k:=VS ops.toList 0 k ops[k] e hback (by simp[hk1]) (by simpa using he) hb
     grind
   simp_all
 refine main ops.size (Array.replicate ops.size false) a _ (by simp) ?_ ?_ ?_
 ·have:(List.range ops.size).filter (fun k=>!Sof (Array.replicate ops.size false) k)=List.range ops.size:=by
   refine List.filter_eq_self.2 fun k hk=>?_
   simp only[Sof,Array.getD_eq_getD_getElem?,Array.getElem?_replicate];split<;>rfl
  rw[this];simp
 ·intro i j _ hj;exfalso;revert hj;simp only[Sof,Array.getD_eq_getD_getElem?,Array.getElem?_replicate];split<;>simp
 ·have hz:∀k,Sof (Array.replicate ops.size false) k=false:=by intro k;simp only[Sof,Array.getD_eq_getD_getElem?,Array.getElem?_replicate];split<;>rfl
  rw[Kr es 0 s0 (fun k _=>hz k),JE es 0 h0 (fun k _=>hz k)]
  obtain⟨g,R⟩:=R;exact⟨g,R.drew.Af (fun n hn=>hn.1)⟩
theorem nY (hti:Ay C.P ti) (h1:BH ti) (hm:C.P.follows .mixedOrders=true):GX C (BK ti C.M C.nt):=
 fun _ ops σ K Q a w hQ _ hk R=>wpIn_region_any hm (iR hti h1 ops σ K Q a w hQ hk R)
end
end Go.AM
namespace Go.AM
open Go Go.RowKit
theorem AY.XD {C:Cx}{F:Nat→Prop}{s:AL}{h:Heap}{g:AP}{a:Act}{w:World}(R:AY C F s h g a w) (t:Nat) (v:AV) (hr:An w (Av (zone g h) C.X) g h v (a.tmps.getD t undef)) (hv:∀f cs rows,v≠ .df f cs rows:=by simp):
  AY C F (CR s (some t) v) h g a w:=by
 have hdf:DY w (Av (zone g h) C.X) g C.M.cl (CR s (some t) v DT) a.defers C.D:=by
  simp only[CR];split
  ·exact R.defers.un hv
  ·exact R.defers
 refine {R with slots:=fun t'=>?_,defers:=hdf}
 simp only[CR];split
 ·subst_vars;exact hr
 ·exact R.slots t'
def JF {α:Type}:List α→Nat→α→List α
 | [],_,_=>[]
 | x::r,n,y=>match n with
  | 0=>y::r
  | m+1=>x::JF r m y
theorem Ku {α:Type}:∀(l:List α) (n:Nat) (y:α),JF l n y=l.set n y
 | [],_,_=>rfl
 | _::_,0,_=>rfl
 | x::r,n+1,y=>by simp[JF,Ku r n y]
def Kv (ag:Bool) (sz:Nat):CV→Bool
 | .nils a s=>(a==ag)&&Nat.beq s sz
 | _=>false
def J5 (ag:Bool) (sz:Nat):AV→Bool
 | .v (.c c)=>Kv ag sz c
 | _=>false
def Yi:List CV→Nat→CV
 | [],_=>.un
 | x::r,n=>match n with
  | 0=>x
  | m+1=>Yi r m
theorem Pb {ag:Bool}{sz:Nat}{c:CV}(h:Kv ag sz c=true):c= .nils ag sz:=by
 cases c<;>simp[Kv]at h
 simp_all
theorem TA:∀{cs:List CV}{j:Nat}{ag:Bool}{sz:Nat},Kv ag sz (Yi cs j)=true→cs[j]?=some (.nils ag sz)
 | [],j,ag,sz,h=>by trivial
 | x::r,0,ag,sz,h=>by simpa using Pb (by simpa [Yi] using h)
 | x::r,j+1,ag,sz,h=>by simpa using TA (cs:=r) (j:=j) (by simpa [Yi] using h)
theorem BP.trans {a b c:St}(h1:BP a b) (h2:BP b c):BP a c:=fun C x w r=>h2 C x w (h1 C x w r)
theorem BP.refl (a:St):BP a a:=fun _ _ _ r=>r
end Go.AM
namespace Go.AM
open Go Go.RowKit
def iT (c:CV) (j:Id) (n:Nat):CV:=
 match c with
 | .d (.list ag sz rows)=>match Nat.beq rows.length n with
  | true=>.d (.list ag sz rows)
  | false=>.sl j n
 | _=>.sl j n
def CV.sub (x:CV) (i:Id) (c:CV):CV:=
 match x with
 | .ow j=>match Id.beq j i with
  | true=>c
  | false=>.ow j
 | .sl j n=>match Id.beq j i with
  | true=>iT c j n
  | false=>.sl j n
 | x=>x
def isM (i:Id) (c:CV):CV→Prop
 | .ow j=>j=i
 | .sl j n=>j=i∧∃ag sz rows,c= .d (.list ag sz rows)∧rows.length=n
 | _=>False
def TB (i:Id) (c:CV):List CV→List CV
 | []=>[]
 | x::r=>x.sub i c::TB i c r
def V1.sub (i:Id) (c:CV) (x:V1):V1:=
 match x with
 | .d x=>.d x
 | .c x=>match x.sub i c with
  | .d y=>.d y
  | y=>.c y
 | .agg cs=>.agg (TB i c cs)
def nZ (i:Id) (c:CV):List V1→List V1
 | []=>[]
 | x::r=>x.sub i c::nZ i c r
def AV.sub (i:Id) (c:CV) (x:AV):AV:=
 match x with
 | .u=>.u
 | .v x=>.v (x.sub i c)
 | .t xs=>.t (nZ i c xs)
 | .df f cs rows=>.df f cs rows
def AD.sub (i:Id) (c:CV) (o:AD):AD:=
 match o with
 | .cells cs=>.cells (TB i c cs)
 | .tree kd ag sz rows foc=>.tree kd ag sz rows (match foc with
  | some x=>some (x.1,TB i c x.2)
  | none=>none)
 | o=>o
theorem Gd {i:Id}{c:CV}:∀{l:List CV},TB i c l=l.map (fun x=>x.sub i c)
 | []=>rfl
 | x::l=>by simp[TB,Gd (l:=l)]
theorem Qk {i:Id}{c:CV}:∀{l:List V1},nZ i c l=l.map (V1.sub i c)
 | []=>rfl
 | x::l=>by simp[nZ,Qk (l:=l)]
section
variable {C:Cx}{F:Nat→Prop}{s:AL}{h:Heap}{g:AP}{a:Act}{w:World}
section
variable {w':World}{Z Z':Ak}{g':AP}{h':Heap}{i:Id}{c:CV}{v:Value}
theorem J6 (hE:∀{x:CV}{v:Value},BB w Z g h x v→BB w' Z' g' h' x v) (hc:∀x v,isM i c x→BB w Z g h x v→BB w' Z' g' h' c v) {x:CV}(r:BB w Z g h x v):
  BB w' Z' g' h' (x.sub i c) v:=by
 unfold CV.sub;split
 ·rename_i j;cases e:Id.beq j i with
  | true=>exact hc (.ow j) v (Id.beq_iff.1 e:j=i) r
  | false=>exact hE r
 ·rename_i j n;cases e:Id.beq j i with
  | true=>
   show BB w' Z' g' h' (iT c j n) v;unfold iT;split
   ·rename_i ag sz rows;cases e2:Nat.beq rows.length n with
    | true=>exact hc (.sl j n) v ⟨Id.beq_iff.1 e,ag,sz,rows,rfl,Nat.eq_of_beq_eq_true e2⟩ r
    | false=>exact hE r
   ·exact hE r
  | false=>exact hE r
 ·exact hE r
theorem Pc (hE:∀{x:CV}{v:Value},BB w Z g h x v→BB w' Z' g' h' x v) (hD:∀{x:D}{v:Value},AZ w Z x v→AZ w' Z' x v) (hc:∀x v,isM i c x→BB w Z g h x v→BB w' Z' g' h' c v) {x:V1}(r:Ah w Z g h x v):
  Ah w' Z' g' h' (x.sub i c) v:=by
 cases x with
 | d x=>exact hD r
 | c x=>
  have:=J6 hE hc (x:=x) r;show Ah w' Z' g' h' (match x.sub i c with | .d y=>.d y | y=>.c y) v
  split
  ·rename_i y hy;rw[hy]at this;exact this.1
  ·exact this
 | agg cs=>
  obtain⟨vs,hv,hs,hr⟩:=r;refine⟨vs,hv,by rw[Gd];simpa using hs,fun j y u hy hu=>?_⟩
  rw[Gd,List.getElem?_map,Option.map_eq_some_iff]at hy;obtain⟨x,hx,rfl⟩:=hy;exact J6 hE hc (hr j x u hx hu)
theorem Yj (hE:∀{x:CV}{v:Value},BB w Z g h x v→BB w' Z' g' h' x v) (hD:∀{x:D}{v:Value},AZ w Z x v→AZ w' Z' x v) (hc:∀x v,isM i c x→BB w Z g h x v→BB w' Z' g' h' c v) {x:AV}(r:An w Z g h x v):
  An w' Z' g' h' (x.sub i c) v:=by
 cases x with
 | u=>trivial
 | v x=>exact Pc hE hD hc r
 | t xs=>
  obtain⟨vs,hv,hs,hr⟩:=r;refine⟨vs,hv,by rw[Qk];simpa using hs,fun j y u hy hu=>?_⟩
  rw[Qk,List.getElem?_map,Option.map_eq_some_iff]at hy;obtain⟨x,hx,rfl⟩:=hy;exact Pc hE hD hc (hr j x u hx hu)
 | df f cs rows=>trivial
def CM (h:Heap) (i:Id) (c:CV) (nw:Option (Nat×AD)):Heap:=fun j=>
 match nw with
 | some (n,o)=>if j= .loc n then some o else if j=i then some .gone else (h j).map (AD.sub i c)
 | none=>if j=i then some .gone else (h j).map (AD.sub i c)
def CN (g:AP) (i:Id) (nw:Option (Nat×AD)):AP:=
 match nw with
 | some (n,_)=>Ap g (.loc n) (g i)
 | none=>g
theorem TC {gv:Value}{o:AD}{b p:Nat}:BS gv (o.sub i c) b p↔BS gv o b p:=by
 cases o<;>exact Iff.rfl
theorem MZ {gv:Value}{o:AD}{b:Nat}:FF gv (o.sub i c) b↔FF gv o b:=by
 cases o<;>exact Iff.rfl
theorem iU {o:Option AD}:isLive (o.map (AD.sub i c))=isLive o:=by
 cases o with
 | none=>rfl
 | some o=>cases o<;>rfl
theorem AY.swap (R:AY C F s h g a w) {ob:AD}(hi:h i=some ob) (hob:B4 ob) {nw:Option (Nat×AD)}(hnw:∀n o,nw=some (n,o)→F n∧o=ob) {F':Nat→Prop}(hF:∀k,F' k→F k∧∀n o,nw=some (n,o)→k≠n)
  (hc:(∀b o,Av (zone (CN g i nw) (CM h i c nw)) C.X b o→Av (zone g h) C.X b o)→(nw=none→∀b o,Bc (g i) b→¬Av (zone (CN g i nw) (CM h i c nw)) C.X b o)→
   ∀x v,isM i c x→BB w (Av (zone g h) C.X) g h x v→BB w (Av (zone (CN g i nw) (CM h i c nw)) C.X) (CN g i nw) (CM h i c nw) c v):
  AY C F' (fun t=>(s t).sub i c) (CM h i c nw) (CN g i nw) a w:=by
 -- what lies where
 have hn:∀n o,nw=some (n,o)→g (.loc n)=undef∧h (.loc n)=none:=fun n o e=>R.free n (hnw n o e).1
 have gsm:∀j,(∀n o,nw=some (n,o)→j≠ .loc n)→CN g i nw j=g j:=by
  intro j hj;unfold CN;split
  ·rename_i n o;simp[Ap,hj n o rfl]
  ·rfl
 have gne:∀j,g j≠undef→CN g i nw j=g j:=fun j hj=>gsm j fun n o e hjn=>hj (hjn▸(hn n o e).1)
 have cases_:∀j o,CM h i c nw j=some o→(∃n,nw=some (n,o)∧j= .loc n∧o=ob∧CN g i nw j=g i)∨(j=i∧o= .gone)∨(j≠i∧∃o0,h j=some o0∧o=o0.sub i c∧CN g i nw j=g j):=by
  intro j o hj
  have other:(∀n o,nw=some (n,o)→j≠ .loc n)→(if j=i then some AD.gone else (h j).map (AD.sub i c))=some o→(j=i∧o= .gone)∨(j≠i∧∃o0,h j=some o0∧o=o0.sub i c∧CN g i nw j=g j):=by
   intro hj' hj;split at hj
   ·simp_all
   ·rename_i hne;obtain⟨o0,h1,h2⟩:=Option.map_eq_some_iff.1 hj;simp_all
  unfold CM at hj;split at hj
  ·rename_i n o';split at hj
   ·rename_i hjn;cases hj
    subst hjn;exact .inl ⟨n,rfl,rfl,(hnw n _ rfl).2,by simp[CN,Ap]⟩
   simp_all
  simp_all
 have hz1:∀j o b p,CM h i c nw j=some o→BS (CN g i nw j) o b p→∃j' o',h j'=some o'∧BS (g j') o' b p∧(j'=j∨j'=i):=by
  intro j o b p hj hb;rcases cases_ j o hj with⟨n,_,_,rfl,hg⟩ | ⟨rfl,rfl⟩ | ⟨_,o0,h1,rfl,hg⟩
  ·grind
  ·exact hb.elim
  ·rw[hg]at hb;exact⟨j,o0,h1,TC.1 hb,.inl rfl⟩
 have hz:∀b o,Av (zone (CN g i nw) (CM h i c nw)) C.X b o→Av (zone g h) C.X b o:=by
  rintro b p (⟨j,o,hj,hb⟩ | hx)
  ·obtain⟨j',o',h1,h2,_⟩:=hz1 j o b p hj hb;exact .inl ⟨j',o',h1,h2⟩
  ·exact .inr hx
 have hgone:nw=none→∀b o,Bc (g i) b→¬Av (zone (CN g i nw) (CM h i c nw)) C.X b o:=by
  rintro e b p hb (⟨j,o,hj,h1⟩ | hx)
  ·rcases cases_ j o hj with⟨n,e',_⟩ | ⟨rfl,rfl⟩ | ⟨hne,o0,h2,rfl,hg⟩
   ·rw[e]at e';cases e'
   ·exact h1.elim
   ·rw[hg]at h1;exact hne (R.heap.sep j i o0 ob b h2 hi (TC.1 h1).HA (hob.HA hb))
  ·exact R.heap.apart i _ b p hi (hob.HA hb) hx
 have E:HC w (Av (zone g h) C.X) g h w (Av (zone (CN g i nw) (CM h i c nw)) C.X) (CN g i nw) (CM h i c nw):=by
  refine⟨fun b o u hu hx=>⟨hu,fun hy=>hx (hz b o hy)⟩,fun j b hb=>gne j (by rw[hb];simp[undef]),fun j q hq=>gne j (by rw[hq];simp[undef]),fun j hj=>?_,fun j k sz e hj hk=>?_,fun j hj=>?_,fun j hj hl=>?_⟩
  ·rw[gne j (fun e=>by rw[e]at hj;exact hj)];exact hj
  ·have e1:=gne j (fun e=>by rw[e]at hj;exact hj)
   rcases cases_ j _ hk with⟨n,e',rfl,_,_⟩ | ⟨_,h2⟩ | ⟨_,o0,h2,h3,_⟩
   ·rw[(hn n _ e').1]at hj;exact hj.elim
   ·cases h2
   ·cases o0<;>simp[AD.sub]at h3
    simp_all
  ·rw[gne j (fun e=>BT (e▸hj))];exact hj
  ·refine⟨?_,by rw[gne j (fun e=>BT (e▸hj))]⟩
   cases ho:CM h i c nw j with
   | none=>rw[ho]at hl;cases hl
   | some o=>
    rw[ho]at hl;rcases cases_ j o ho with⟨n,e',rfl,_,_⟩ | ⟨_,rfl⟩ | ⟨_,o0,h2,rfl,_⟩
    ·rw[(hn n _ e').1]at hj;exact (BT hj).elim
    ·cases hl
    ·rw[h2,←iU (i:=i) (c:=c)];exact hl
 have hcc:=hc hz hgone
 have objs:∀j o,CM h i c nw j=some o→BL w (Av (zone (CN g i nw) (CM h i c nw)) C.X) (CN g i nw) (CM h i c nw) o (CN g i nw j):=by
  intro j o hj;rcases cases_ j o hj with⟨n,_,_,rfl,hg⟩ | ⟨rfl,rfl⟩ | ⟨_,o0,h1,rfl,hg⟩
  ·rw[hg];exact (R.heap.objs i _ hi).evo E fun _ _=>rfl
  ·trivial
  ·rw[hg];cases o0 with
   | cells cs=>
    obtain⟨b,cc,e,h2,h3,h4,h5⟩:=R.heap.objs j _ h1;refine⟨b,cc,e,h2,h3,by rw[Gd];simpa using h4,fun q x u hx hu=>?_⟩
    rw[Gd,List.getElem?_map,Option.map_eq_some_iff]at hx;obtain⟨y,hy,rfl⟩:=hx;exact J6 E.La hcc (h5 q y u hy hu)
   | tree kd ag sz rows foc=>
    cases foc with
    | none=>exact (R.heap.objs j _ h1).evo E fun _ _=>rfl
    | some x=>
     obtain⟨k,cs⟩:=x;obtain⟨ht,h0,hf,xs,hx,hcs,U,T,p1,p2,p3,p4,p5⟩:=R.heap.objs j _ h1
     have sk:∀{i':Nat},(∀k' cs',(some (k,TB i c cs):Option (Nat×List CV))=some (k',cs')→i'≠k')→∀k' cs',(some (k,cs):Option (Nat×List CV))=some (k',cs')→i'≠k':=by
      grind
     have sk':∀{i':Nat},(∀k' cs',(some (k,cs):Option (Nat×List CV))=some (k',cs')→i'≠k')→∀k' cs',(some (k,TB i c cs):Option (Nat×List CV))=some (k',cs')→i'≠k':=by
      grind
     refine⟨ht,h0,hf,xs,hx,fun k' cs' e=>?_,U,T,fun i' r jj d hi hr hd=>⟨(p1 i' r jj d (sk hi) hr hd).1,(p1 i' r jj d (sk hi) hr hd).2.map E.GP id⟩,fun i' jj b hb=>⟨sk' (p2 i' jj b hb).1,(p2 i' jj b hb).2⟩,p3,p4,p5⟩
     cases e
     obtain⟨g1,g2,g3⟩:=hcs k cs rfl;refine⟨g1,by rw[Gd];simpa using g2,fun q x u hx hu=>?_⟩
     rw[Gd,List.getElem?_map,Option.map_eq_some_iff]at hx;obtain⟨y,hy,rfl⟩:=hx;exact J6 E.La hcc (g3 q y u hy hu)
   | _=>exact (R.heap.objs j _ h1).evo E fun _ _=>rfl
 have hsep:∀j j' oi oj b,CM h i c nw j=some oi→CM h i c nw j'=some oj→FF (CN g i nw j) oi b→FF (CN g i nw j') oj b→j=j':=by
  intro j j' oi oj b h1 h2 h3 h4;rcases cases_ j oi h1 with⟨n,e,rfl,rfl,hg⟩ | ⟨rfl,rfl⟩ | ⟨hne,o0,h5,rfl,hg⟩
  ·rcases cases_ j' oj h2 with⟨n',e',rfl,_,_⟩ | ⟨rfl,rfl⟩ | ⟨hne',o0',h5',rfl,hg'⟩
   ·grind
   ·exact h4.elim
   ·rw[hg]at h3;rw[hg']at h4;exact absurd (R.heap.sep i j' _ _ b hi h5' h3 (MZ.1 h4)).symm hne'
  ·exact h3.elim
  ·rw[hg]at h3;rcases cases_ j' oj h2 with⟨n',e',rfl,rfl,hg'⟩ | ⟨rfl,rfl⟩ | ⟨hne',o0',h5',rfl,hg'⟩
   ·rw[hg']at h4;exact absurd (R.heap.sep j i _ _ b h5 hi (MZ.1 h3) h4) hne
   ·exact h4.elim
   ·rw[hg']at h4;exact R.heap.sep j j' _ _ b h5 h5' (MZ.1 h3) (MZ.1 h4)
 have RS:=R.step (F':=F') (fun _=>True) E ⟨rfl,rfl,rfl,Nat.le_refl _,fun _ _ _=>rfl,fun _ _ _ hu _=>hu⟩ (fun j hj=>absurd trivial hj) (fun _ _ _ hj=>absurd trivial hj) (fun j o _ hj=>objs j o hj)
  (fun j o b p _ hj hb=>let ⟨j',o',h1,h2,_⟩:=hz1 j o b p hj hb;.inl ⟨j',o',trivial,h1,h2⟩) (fun j j' oi oj b _ _ h1 h2 h3 h4=>hsep j j' oi oj b h1 h2 h3 h4) (fun j _=>by rw[gsm (.ext j) (by rintro n o _ e;cases e)];exact .refl _)
  (fun k hk=>by
   obtain⟨h1,h2⟩:=hF k hk;obtain⟨h3,h4⟩:=R.free k h1;have hne:∀n o,nw=some (n,o)→Id.loc k≠ .loc n:=fun n o e h=>h2 n o e (by cases h;rfl)
   refine⟨(gsm _ hne).trans h3,?_⟩;cases ho:CM h i c nw (.loc k)with
   | none=>rfl
   | some o=>
    grind)
 have hdf:DY w (Av (zone (CN g i nw) (CM h i c nw)) C.X) (CN g i nw) C.M.cl ((s DT).sub i c) a.defers C.D:=by
  cases he:s DT with
  | df f cs rows=>rw[←he];have:=RS.defers;rw[he]at this ⊢;exact this
  | _=>exact R.defers.un (by simp[AV.sub])
 exact {RS with slots:=fun t=>Yj E.La E.GP hcc (R.slots t),defers:=hdf}
def TD (i:Id) (c:CV):List (Nat×AV)→List (Nat×AV)
 | []=>[]
 | (t,v)::r=>(t,v.sub i c)::TD i c r
def NU (i:Id) (c:CV):List (Id×AD)→List (Id×AD)
 | []=>[]
 | (j,o)::r=>(j,o.sub i c)::NU i c r
theorem JG {i:Id}{c:CV}:∀{l:List (Nat×AV)}{t:Nat},AQ (TD i c l) t=(AQ l t).sub i c
 | [],t=>rfl
 | (k,v)::r,t=>by
  show (match Nat.beq k t with | true=>v.sub i c | false=>AQ (TD i c r) t)=(match Nat.beq k t with | true=>v | false=>AQ r t).sub i c
  cases Nat.beq k t with
  | true=>rfl
  | false=>exact JG
theorem JH {i:Id}{c:CV}:∀{l:List (Id×AD)}{j:Id},AJ (NU i c l) j=(AJ l j).map (AD.sub i c)
 | [],j=>rfl
 | (k,v)::r,j=>by
  show (match Id.beq k j with | true=>some (v.sub i c) | false=>AJ (NU i c r) j)=(match Id.beq k j with | true=>some v | false=>AJ r j).map (AD.sub i c)
  cases Id.beq k j with
  | true=>rfl
  | false=>exact JH
def TE (i:Id) (x:D) (σ:St):St:=⟨TD i (.d x) σ.slots,Cq (NU i (.d x) σ.heap) i .gone,σ.next⟩
def VT (i:Id) (o:AD) (σ:St):St:=⟨TD i (.ow (.loc σ.next)) σ.slots,Cq (Cq (NU i (.ow (.loc σ.next)) σ.heap) i .gone) (.loc σ.next) o,σ.next+32⟩
theorem Yk {σ:St}{x:D}{ob:AD}(hi:AJ σ.heap i=some ob) (hob:B4 ob)
  (hr:∀{C:Cx} {g:AP} {w:World},DA w C.X g (AJ σ.heap)→(∀b o,Av (zone g (CM (AJ σ.heap) i (.d x) none)) C.X b o→Av (zone g (AJ σ.heap)) C.X b o)→(∀b o,Bc (g i) b→¬Av (zone g (CM (AJ σ.heap) i (.d x) none)) C.X b o)→
   ∀y v,isM i (.d x) y→BB w (Av (zone g (AJ σ.heap)) C.X) g (AJ σ.heap) y v→AZ w (Av (zone g (CM (AJ σ.heap) i (.d x) none)) C.X) x v∧x.isAgg=false):BP σ (TE i x σ):=by
 rintro C a w ⟨g,R⟩
 have R2:=R.swap (F':=fun n=>σ.next≤n) hi hob (c:=.d x) (nw:=none) (fun _ _ e=>by cases e) (fun k hk=>⟨hk,fun _ _ e=>by cases e⟩) (fun hz hg y v hm r=>hr R.heap hz (hg rfl) y v hm r)
 refine⟨g,?_⟩;have e1:AQ (TE i x σ).slots=fun t=>(AQ σ.slots t).sub i (.d x):=by funext t;exact JG
 have e2:AJ (TE i x σ).heap=CM (AJ σ.heap) i (.d x) none:=by
  funext j;show AJ (Cq (NU i (.d x) σ.heap) i .gone) j=_;rw[CL];simp only[AK,CM,JH]
 show AY C (fun n=>σ.next≤n) (AQ (TE i x σ).slots) (AJ (TE i x σ).heap) g a w
 rw[e1,e2];exact R2
theorem TF {σ:St}{kd:Kd}{ag:Bool}{sz:Nat}{rows:List D}(hi:AJ σ.heap i=some (.tree kd ag sz rows none)) (hk:kd= .row∨kd= .flat):BP σ (TE i (.list ag sz rows) σ):=by
 refine Yk hi trivial fun RH hz hg y v hm r=>⟨?_,rfl⟩
 rename_i C g w;have ho:=RH.objs i _ hi
 have hv:v=gval (g i):=by
  cases y<;>first | exact (hm:False).elim | skip
  ·rename_i j n;obtain⟨rfl,_⟩:=hm;obtain⟨⟨b,hb⟩,_⟩:=r;obtain⟨vs,_,h1,_⟩:=ho.1;rw[hb]at h1;cases h1
  ·rename_i j;obtain rfl:j=i:=hm;exact r.2.2 (by rw[hi];rfl)
 rw[hv];obtain⟨ht,h0,hf,xs,hx,_,U,T,h1,h2,h3,h4,h5⟩:=ho;rcases hk with rfl | rfl
 ·exact ((Ms (show Jl .row ag sz rows=some (.list ag sz rows)from rfl)).1 (RH.objs i _ hi)).2.toD hg
 ·obtain⟨e,hl,hx⟩:=hx;rcases hx with⟨hv,hn⟩ | ⟨q,cap,cur,hv,_,hh,hnc,hcm,hcs,htake⟩
  ·have:rows=[]:=List.eq_nil_of_length_eq_zero hn;subst this;rw[hv];exact .list ag sz [] none 0 0 0 (fun _ _=>undef) (Nat.le_refl _) (Nat.zero_le _) (by simp) (by simp) (by simp) (by simp)
  ·rw[hv];refine .list ag sz rows _ cap q 0 U hnc hcm hf (fun _=>rfl) (fun k r j c hr hc=>?_) (fun k r j c hr hc=>?_)
   ·obtain⟨p1,_⟩:=h1 k r j c (fun _ _ h=>by cases h) hr hc
    refine⟨?_,fun hz'=>hg q _ ((h5 q).2 (.inl (by rw[hv];rfl))) hz'⟩
    rw[←htake,List.getElem?_take]at p1;split at p1
    ·rw[Nat.zero_add];simpa [World.cell?,hh] using p1
    ·cases p1
   ·obtain⟨_,p2⟩:=h1 k r j c (fun _ _ h=>by cases h) hr hc
    exact (((Cm.fz rfl).1 p2).1.1).mono fun b o u hu hn=>⟨hu,fun hz'=>hn (hz b o hz')⟩
theorem Yl {σ:St}{kd:Kd}{ag:Bool}{sz:Nat}{rows:List D}(hi:AJ σ.heap i=some (.tree kd ag sz rows none)):BP σ (VT i (.tree kd ag sz rows none) σ):=by
 rintro C a w ⟨g,R⟩
 have hn:=R.free σ.next (Nat.le_refl _)
 have R2:=R.swap (F':=fun n=>σ.next+32≤n) hi trivial (c:=.ow (.loc σ.next)) (nw:=some (σ.next,.tree kd ag sz rows none)) (fun _ _ e=>by simp_all) (fun k hk=>⟨by omega,fun _ _ e=>by cases e;omega⟩) (fun hz hg y v hm r=>by
  have ho:=R.heap.objs i _ hi
  have hv:v.oneCell'=true∧v=gval (g i):=by
   cases y<;>first | exact (hm:False).elim | skip
   ·rename_i j n;obtain⟨rfl,_⟩:=hm;simp_all
   ·rename_i j;obtain rfl:j=i:=hm;exact⟨r.1,r.2.2 (by rw[hi];rfl)⟩
  have e:CN g i (some (σ.next,.tree kd ag sz rows none)) (.loc σ.next)=g i:=by simp[CN,Ap]
  refine⟨hv.1,by rw[e];exact ho.1,fun _=>by rw[e];exact hv.2⟩)
 refine⟨CN g i (some (σ.next,.tree kd ag sz rows none)),?_⟩;have e1:AQ (VT i (.tree kd ag sz rows none) σ).slots=fun t=>(AQ σ.slots t).sub i (.ow (.loc σ.next)):=by funext t;exact JG
 have e2:AJ (VT i (.tree kd ag sz rows none) σ).heap=CM (AJ σ.heap) i (.ow (.loc σ.next)) (some (σ.next,.tree kd ag sz rows none)):=by
  funext j;show AJ (Cq (Cq (NU i (.ow (.loc σ.next)) σ.heap) i .gone) (.loc σ.next) (.tree kd ag sz rows none)) j=_;rw[CL,CL];simp only[AK,CM,JH]
 show AY C (fun n=>σ.next+32≤n) (AQ (VT i (.tree kd ag sz rows none) σ).slots) (AJ (VT i (.tree kd ag sz rows none) σ).heap) _ a w
 rw[e1,e2];exact R2
end
end
end Go.AM
namespace Go.AM
open Go Go.RowKit
section
variable {C:Cx}{F:Nat→Prop}{s:AL}{h:Heap}{g:AP}{a:Act}{w:World}{sz:Nat}
theorem AY.tJ (R:AY C F s h g a w) {n:Nat}(hf:F n) (ag:Bool) (hsz:0<sz):
  ∃g',AY C (fun k=>F k∧k≠n) s (AK h (.loc n) (.tree .row ag sz [] none)) g' a w∧BB w (Av (zone g' (AK h (.loc n) (.tree .row ag sz [] none))) C.X) g' (AK h (.loc n) (.tree .row ag sz [] none)) (.ow (.loc n)) (.slice none 0 0):=
 R.SE (T0:=[]) (by simp) hf ⟨rfl,rfl,rfl,Nat.le_refl _⟩ (fun _ _ _=>rfl) hsz (⟨0,World.ownsRow_nil w 0 0 sz⟩:Holds w .row sz (.slice none 0 0) ([]:List D).length []) (EY.nil w ag sz) (fun b hb=>hb.elim) (by simp[blk]) (by simp)
def J7 (t:Nat) (ag:Bool) (sz:Nat) (σ:St):St:=
 ⟨(t,.v (.c (.ow (.loc σ.next))))::σ.slots,Cq σ.heap (.loc σ.next) (.tree .row ag sz [] none),σ.next+32⟩
variable {t:Nat}{ag:Bool}{σ:St}
theorem O0 (hsz:Nat.blt 0 sz=true) (ht:AQ σ.slots t= .v (.c (.nils ag sz))):BP σ (J7 t ag sz σ):=by
 rintro C a w ⟨g,R⟩
 have hv:=R.slots t;rw[ht]at hv;have hv:a.tmps.getD t undef= .slice none 0 0:=hv;obtain⟨g',R',hl⟩:=R.tJ (n:=σ.next) (Nat.le_refl _) ag (sz:=sz) (by simp_all)
 have R2:=(R'.XD t (.v (.c (.ow (.loc σ.next)))) (by rw[hv];exact hl)).Af (F':=fun n=>σ.next+32≤n) (fun n hn=>⟨by omega,by omega⟩)
 refine⟨g',?_⟩;simp only[J7,Bf,CL];exact R2
def J8 (i:Id) (j:Nat) (ag:Bool) (sz:Nat) (σ:St):St:=
 match AJ σ.heap i with
 | some (.cells cs)=>⟨σ.slots,Cq (Cq σ.heap (.loc σ.next) (.tree .row ag sz [] none)) i (.cells (JF cs j (.ow (.loc σ.next)))),σ.next+32⟩
 | _=>σ
variable {i:Id}
theorem O1 {j:Nat}{cs:List CV}(hsz:Nat.blt 0 sz=true) (hi:AJ σ.heap i=some (.cells cs)) (hj:cs[j]?=some (.nils ag sz)):BP σ (J8 i j ag sz σ):=by
 rintro C a w ⟨g,R⟩
 obtain⟨g',R',hl⟩:=R.tJ (n:=σ.next) (Nat.le_refl _) ag (sz:=sz) (by simp_all)
 have hne:i≠ .loc σ.next:=by
  rintro rfl
  have:=(R.free σ.next (Nat.le_refl _)).2;simp_all
 have hi':AK (AJ σ.heap) (.loc σ.next) (.tree .row ag sz [] none) i=some (.cells cs):=by simp[AK,hne,hi]
 obtain⟨b,c,et,hb,hh,hsz2,hr⟩:=R'.heap.objs i _ hi'
 have R2:=R'.store (cs':=cs.set j (.ow (.loc σ.next))) hi' hb hh (c':=c) (by simp[hsz2]) (fun k x u hx hu=>by
  by_cases hk:k=j
  ·subst hk;have hlt:k<cs.length:=(List.getElem?_eq_some_iff.1 hj).1;rw[List.getElem?_set_self hlt]at hx;cases hx
   have:=hr k _ u hj hu;rw[show u=_ from this]
   exact hl
  grind)
 have hw:w.setRow b c=w:=setRow_self w b c _ _ hh;rw[hw]at R2;have R3:=R2.Af (F':=fun n=>σ.next+32≤n) (fun n hn=>⟨by omega,by omega⟩)
 refine⟨g',?_⟩;simp only[J8,hi,CL,Ku];exact R3
theorem AY.flatten (R:AY C F s h g a w) {rows:List D}(hi:h i=some (.tree .row ag sz rows none)):
  ∃g',AY C F s (AK h i (.tree .flat ag sz rows none)) g' a w:=by
 obtain⟨ht,h0,hf,xs,hx,_,U,T,h1,h2,h3,h4,h5⟩:=R.heap.objs i _ hi;obtain⟨gv,gt,gg,gb⟩:=Zg (gval (g i)) (blk (gval (g i))).toList (fun b=>blk (gval (g i))=some b) (fun b hb=>by simp[hb])
 have hsub:∀b,Bc gv b→Bc (g i) b:=fun b hb=>(h5 b).2 (.inl ((gb b).1 hb))
 have hX:∀b o,Bc (g i) b→¬Bc gv b→¬Av (zone (Ap g i gv) (AK h i (.tree .flat ag sz rows none))) C.X b o:=by
  rintro b o hb hnb (⟨j,ob,hj,h6⟩ | hx)
  ·by_cases hji:j=i
   ·subst hji;simp only[AK,if_pos,Option.some.injEq]at hj;subst hj;have h6:Bc (Ap g j gv j) b:=h6;simp only[Ap,if_pos]at h6;exact hnb h6
   ·simp only[AK,if_neg hji]at hj;simp only[Ap,if_neg hji]at h6;exact hji (R.heap.sep j i ob _ b hj hi h6.HA hb)
  ·exact R.heap.apart i _ b o hi hb hx
 refine⟨Ap g i gv,R.Mk (fun j=>j=i) (fun j hj=>by simp[AK,Ap,hj]) ?_ ?_ ?_ ?_ ?_ ?_ ?_ ?_⟩
 ·rintro j rfl
  exact .inr (.inl ⟨ht,by simpa [Ap] using gt,by simp[Ap,gg]⟩)
 ·rintro j rfl _ _
  rw[hi];rfl
 ·rintro j ob rfl ho
  simp only[AK,if_pos,Option.some.injEq]at ho;grind
 ·rintro j o rfl ho EC ED
  simp only[AK,if_pos,Option.some.injEq]at ho;subst ho;have e1:Ap g j gv j=gv:=by simp[Ap]
  rw[e1];refine Qb gt h0 hf (xs:=xs) (by rw[gg];exact hx) (fun k r q c hr hc=>?_) (fun b=>by rw[gb,gg])
  obtain⟨p1,p2⟩:=h1 k r q c (fun _ _ h=>by cases h) hr hc
  refine⟨_,p1,((Cm.own rfl).1 p2).toD fun b o hb=>hX b o ((h5 b).2 (.inr ⟨k,q,hb⟩)) fun hb'=>h3 k q b hb ((gb b).1 hb')⟩
 ·rintro j ob b rfl ho hb
  simp only[AK,if_pos,Option.some.injEq]at ho;subst ho;have hb:Bc (Ap g j gv j) b:=hb;simp only[Ap,if_pos]at hb;exact⟨j,_,rfl,hi,fun o=>hsub b hb⟩
 ·grind
 ·rintro j rfl
  exact .inr ⟨ht,by simpa [Ap] using gt,by simp[Ap,gg]⟩
 ·intro n hn;have:=R.free n hn;have hne:Id.loc n≠i:=by grind
  exact⟨by simp[Ap,hne,this.1],by simp[AK,hne,this.2]⟩
theorem Ql {rows:List D}(hi:AJ σ.heap i=some (.tree .row ag sz rows none)):BP σ ⟨σ.slots,Cq σ.heap i (.tree .flat ag sz rows none),σ.next⟩:=by
 rintro C a w ⟨g,R⟩
 obtain⟨g',R'⟩:=R.flatten hi;refine⟨g',?_⟩;rw[CL];exact R'
theorem AY.drop (R:AY C F s h g a w) {ob:AD}(hi:h i=some ob):AY C F s (AK h i .gone) g a w:=by
 refine R.Mk (fun j=>j=i) (fun j hj=>by simp[AK,hj]) ?_ ?_ ?_ ?_ ?_ ?_ ?_ ?_
 ·simp_all
 ·rintro j rfl _ hl
  simp[AK,isLive]at hl
 ·rintro j ob' rfl ho
  simp[AK]at ho;exact .inr ho.symm
 ·rintro j o rfl ho _ _
  simp[AK]at ho;subst ho;trivial
 ·rintro j ob' b rfl ho hb
  simp[AK]at ho;subst ho;exact hb.elim
 ·simp_all
 ·intro j _;exact .refl _
 ·intro n hn;have:=R.free n hn;have hne:Id.loc n≠i:=by grind
  exact⟨this.1,by simp[AK,hne,this.2]⟩
def Ge (h:Heap):List Id→Option (List FC)
 | []=>some []
 | i::l=>match h i with
  | some (.cells cs)=>(match cs with
   | [.d x]=>(match Ge h l with
    | some r=>some (.d x::r)
    | none=>none)
   | [.ptr j 0]=>(match Ge h l with
    | some r=>some (.p j::r)
    | none=>none)
   | _=>none)
  | _=>none
def AAw (h:Heap) (i:Id):FC→Prop
 | .d x=>h i=some (.cells [.d x])
 | .p j=>h i=some (.cells [.ptr j 0])
 | .h=>False
theorem Kw {h:Heap}:∀{l:List Id}{cs:List FC},Ge h l=some cs→l.length=cs.length∧∀(j:Nat) i c,l[j]?=some i→cs[j]?=some c→AAw h i c
 | [],cs,e=>by simp[Ge]at e;subst e;simp
 | i::l,cs,e=>by
  unfold Ge at e;split at e
  ·rename_i c0 hi;split at e
   ·rename_i x;split at e
    ·rename_i r hr;cases e
     obtain⟨h1,h2⟩:=Kw hr;refine⟨by simp[h1],fun j i' c h3 h4=>?_⟩
     cases j with
     | zero=>simp at h3 h4;subst h3;subst h4;exact hi
     | succ j=>grind
    ·cases e
   ·rename_i x;split at e
    ·rename_i r hr;cases e
     obtain⟨h1,h2⟩:=Kw hr;refine⟨by simp[h1],fun j i' c h3 h4=>?_⟩
     cases j with
     | zero=>simp at h3 h4;subst h3;subst h4;exact hi
     | succ j=>grind
    ·cases e
   ·cases e
  ·cases e
theorem AY.YC:∀(l:List Id) {h:Heap},AY C F s h g a w→l.Nodup→(∀i∈l,∃ob,h i=some ob)→AY C F s (Az h (Aj l)) g a w
 | [],_,R,_,_=>R
 | i::l,h,R,hn,hl=>by
  obtain⟨ob,hi⟩:=hl i (by simp)
  refine AY.YC l (R.drop hi) (List.nodup_cons.1 hn).2 fun j hj=>?_
  have hne:j≠i:=by grind
  simp only[AK,if_neg hne];simp_all
variable {cs:List FC}{f:Nat}
theorem AY.cloz (R:AY C F s h g a w) {Cn:List Id}(ht:s t= .v (.c (.fn f Cn))) (hn:Cn.Nodup) (hb:Ge h Cn=some cs):
  AY C F (CR s (some t) (.v (.c (.fz f cs)))) (Az h (Aj Cn)) g a w:=by
 obtain⟨hl,hbx⟩:=Kw hb
 have hob:∀(j:Nat) i,Cn[j]?=some i→∃c,cs[j]?=some c∧AAw h i c:=by
  intro j i hj;have hlt:=(List.getElem?_eq_some_iff.1 hj).1;exact⟨cs[j]'(by omega),List.getElem?_eq_getElem (by omega),hbx j i _ hj (List.getElem?_eq_getElem (by omega))⟩
 have hsome:∀i∈Cn,∃ob,h i=some ob:=by
  intro i hi;obtain⟨j,hj⟩:=List.mem_iff_getElem?.1 hi;obtain⟨c,_,hc⟩:=hob j i hj;cases c with
  | d x=>exact⟨_,hc⟩
  | p k=>exact⟨_,hc⟩
  | h=>exact hc.elim
 have R':=R.YC Cn hn hsome;refine R'.XD t _ ?_;have hv:=R.slots t;rw[ht]at hv;obtain⟨hv,hcp⟩:=hv;refine⟨Cn.map (fun i=>CF (g i) 0),hv,by simp[hl],fun j c p hc hp=>?_⟩
 rw[List.getElem?_map,Option.map_eq_some_iff]at hp;obtain⟨i,hi,rfl⟩:=hp;have hmem:=List.mem_of_getElem? hi;have hbox:=hbx j i c hi hc
 have main:∀x:CV,h i=some (.cells [x])→∃b u,CF (g i) 0= .pointer (some ⟨b,0,none⟩)∧w.cell? ⟨b,0,none⟩=some u∧¬Av (zone g (Az h (Aj Cn))) C.X b 0∧BB w (Av (zone g h) C.X) g h x u:=by
  intro x hx;obtain⟨b,c,e,hg,hh,hs,hr⟩:=R.heap.objs i _ hx;have hs:c.size=1:=hs;refine⟨b,c[0]'(by omega),by rw[hg];rfl,?_,?_,hr 0 x _ rfl (by simp)⟩
  ·rw[cell_of_row w b 0 c e (0,0) hh];simp
  ·have hob:FF (g i) (.cells [x]) b:=by rw[hg];exact .inl rfl
   rintro (⟨j',ob,hj',hz⟩ | hx')
   ·rw[IW]at hj';split at hj'
    ·cases hj';exact hz.elim
    ·rename_i hnm;exact hnm (R.heap.sep i j' _ ob b hx hj' hob hz.HA▸hmem)
   ·exact R.heap.apart i _ b 0 hx hob hx'
 have hz:∀b o,Av (zone g (Az h (Aj Cn))) C.X b o→Av (zone g h) C.X b o:=by
  rintro b o (⟨j',ob,hj',hz⟩ | hx)
  ·rw[IW]at hj';split at hj'
   ·cases hj';exact hz.elim
   ·exact .inl ⟨j',ob,hj',hz⟩
  ·exact .inr hx
 cases c with
 | d x=>
  obtain⟨b,u,h1,h2,h3,h4⟩:=main _ hbox;exact⟨b,u,h1,h2,h3,h4.1.mono (fun b o u hu hn=>⟨hu,fun hy=>hn (hz b o hy)⟩),h4.2⟩
 | p k=>
  obtain⟨b,u,h1,h2,h3,h4⟩:=main _ hbox;exact⟨b,u,h1,h2,h3,h4⟩
 | h=>exact hbox.elim
theorem Ym {Cn:List Id}(ht:AQ σ.slots t= .v (.c (.fn f Cn))) (hn:nodupB Cn=true) (hb:Ge (AJ σ.heap) Cn=some cs):
  BP σ ⟨(t,.v (.c (.fz f cs)))::σ.slots,Cg σ.heap (Aj Cn),σ.next⟩:=by
 rintro C a w ⟨g,R⟩
 refine⟨g,?_⟩;have:=R.cloz ht (CB.1 hn) hb;rw[Ce,Bf];exact this
def Ma (t f:Nat) (cs:List FC) (σ:St):St:=⟨(t,.v (.c (.ow (.loc σ.next))))::σ.slots,Cq σ.heap (.loc σ.next) (.fnl f cs []),σ.next+32⟩
theorem Qm (ht:AQ σ.slots t= .v (.c (.nils ag sz))):BP σ (Ma t f cs σ):=by
 rintro C a w ⟨g,R⟩
 have hv:=R.slots t;rw[ht]at hv;have hv:a.tmps.getD t undef= .slice none 0 0:=hv
 obtain⟨g',R',hl⟩:=R.Ke (T0:=[]) (by simp) (n:=σ.next) (Nat.le_refl _) ⟨rfl,rfl,rfl,Nat.le_refl _⟩ (fun _ _ _=>rfl) (ob:=.fnl f cs []) (fun _ _ _ h=>h) (v:=.slice none 0 0) (fun _=>False) [] (fun _ h=>h.elim) (fun _ h=>h.elim) rfl
  (fun Z' g' h' gv gt gg gb E=>⟨gt,fun b=>by rw[gb,gg];simp[blk],[],by rw[gg];exact⟨0,World.ownsRow_nil w 0 0 1⟩,fun k r u hr=>by simp at hr⟩)
 have R2:=(R'.XD t (.v (.c (.ow (.loc σ.next)))) (by rw[hv];exact hl)).Af (F':=fun n=>σ.next+32≤n) (fun n hn=>⟨by omega,by omega⟩)
 refine⟨g',?_⟩;simp only[Ma,Bf,CL];exact R2
theorem iV {j:Nat}{cs:List CV}(hi:AJ σ.heap i=some (.cells cs)):BP σ ⟨σ.slots,Cq σ.heap i (.cells (JF cs j .un)),σ.next⟩:=by
 rintro C a w ⟨g,R⟩
 obtain⟨b,c,et,hb,hh,hsz2,hr⟩:=R.heap.objs i _ hi
 have R2:=R.store (cs':=cs.set j .un) hi hb hh (c':=c) (by simp[hsz2]) (fun k x u hx hu=>by
  by_cases hk:k=j
  ·subst hk
   by_cases hlt:k<cs.length
   ·rw[List.getElem?_set_self hlt]at hx;cases hx
    exact (hr k _ u (List.getElem?_eq_getElem hlt) hu).BR
   simp_all
  grind)
 have hw:w.setRow b c=w:=setRow_self w b c _ _ hh;rw[hw]at R2;refine⟨g,?_⟩;simp only[CL,Ku];exact R2
inductive Gh where
 | unC (i:Id) (j:Nat)
 | flatten (i:Id)
 | close (i:Id)
 | treeS (t:Nat) (ag:Bool) (sz:Nat)
 | treeC (i:Id) (j:Nat) (ag:Bool) (sz:Nat)
 | freeze (i:Id)
 | move (i:Id)
 | cloz (t:Nat)
 | fnlS (t f:Nat) (cs:List FC)
def uH:Kd→Bool
 | .row=>true
 | .flat=>true
 | _=>false
def gh:List Gh→St→(St→Prop)→Prop
 | [],σ,K=>K σ
 | x::r,σ,K=>match x with
  | .close i=>GV (AJ σ.heap) [i] fun _ _ wr=>gh r ⟨σ.slots,Cg σ.heap wr,σ.next⟩ K
  | .treeS t ag sz=>BJ (Nat.blt 0 sz)<| BJ (J5 ag sz (AQ σ.slots t))<| gh r (J7 t ag sz σ) K
  | .treeC i j ag sz=>BJ (Nat.blt 0 sz)<| (match AJ σ.heap i with
   | some (.cells cs)=>BJ (Kv ag sz (Yi cs j))<| gh r (J8 i j ag sz σ) K
   | _=>False)
  | .freeze i=>(match AJ σ.heap i with
   | some (.tree kd ag sz rows foc)=>(match foc with
    | none=>BJ (uH kd)<| gh r (TE i (.list ag sz rows) σ) K
    | some _=>False)
   | _=>False)
  | .unC i j=>(match AJ σ.heap i with
   | some (.cells cs)=>gh r ⟨σ.slots,Cq σ.heap i (.cells (JF cs j .un)),σ.next⟩ K
   | _=>False)
  | .flatten i=>(match AJ σ.heap i with
   | some (.tree kd ag sz rows foc)=>(match kd with
    | .row=>(match foc with
     | none=>gh r ⟨σ.slots,Cq σ.heap i (.tree .flat ag sz rows none),σ.next⟩ K
     | some _=>False)
    | _=>False)
   | _=>False)
  | .move i=>(match AJ σ.heap i with
   | some (.tree kd ag sz rows foc)=>(match foc with
    | none=>gh r (VT i (.tree kd ag sz rows none) σ) K
    | some _=>False)
   | _=>False)
  | .fnlS t f cs=>(match AQ σ.slots t with
   | .v (.c (.nils _ _))=>gh r (Ma t f cs σ) K
   | _=>False)
  | .cloz t=>(match AQ σ.slots t with
   | .v (.c (.fn f Cn))=>BJ (nodupB Cn)<| (match Ge (AJ σ.heap) Cn with
    | some cs=>gh r ⟨(t,.v (.c (.fz f cs)))::σ.slots,Cg σ.heap (Aj Cn),σ.next⟩ K
    | none=>False)
   | _=>False)
theorem VU {x:AV}(h:J5 ag sz x=true):x= .v (.c (.nils ag sz)):=by
 cases x with
 | v x=>cases x with
  | c c=>rw[Pb h]
  | _=>simp[J5]at h
 | _=>simp[J5]at h
theorem B9 {K:St→Prop}:∀{l:List Gh}{σ:St},gh l σ K→∃σ',BP σ σ'∧K σ'
 | [],σ,h=>⟨σ,BP.refl σ,h⟩
 | .close i::r,σ,h=>by
  simp only[gh,GV]at h;split at h
  ·rename_i kd ag sz rows k cs hi;obtain⟨hnf,h⟩:=AA.1 h;obtain⟨ds,iss,h,hdl,hol,hcl⟩:=IV h;split at h
   ·rename_i hnd;split at h
    ·rename_i hag;obtain⟨rows',hrows,h⟩:=h;obtain⟨σ',hw,hk⟩:=B9 h;refine⟨σ',BP.trans (fun C a w R=>?_) hw,hk⟩
     obtain⟨g,R⟩:=R;obtain⟨g',R'⟩:=R.mK hi (Ld.1 hnf) hdl hol (CB.1 hnd) (fun e=>by simp_all) hcl hrows
     refine⟨g',?_⟩;simp only[Ce,List.append_nil];exact R'
    ·exact h.elim
   ·exact h.elim
  ·exact h.elim
 | .treeS t ag sz::r,σ,h=>by
  obtain⟨h1,h⟩:=AA.1 h;obtain⟨h2,h⟩:=AA.1 h;obtain⟨σ',h3,h4⟩:=B9 h;exact⟨σ',BP.trans (O0 h1 (VU h2)) h3,h4⟩
 | .treeC i j ag sz::r,σ,h=>by
  obtain⟨h1,h⟩:=AA.1 h;split at h
  ·rename_i cs hi;obtain⟨h2,h⟩:=AA.1 h;obtain⟨σ',h3,h4⟩:=B9 h;exact⟨σ',BP.trans (O1 h1 hi (TA h2)) h3,h4⟩
  ·exact h.elim
 | .fnlS t f cs::r,σ,h=>by
  simp only[gh]at h;split at h
  ·rename_i hs;obtain⟨σ',h3,h4⟩:=B9 h;exact⟨σ',BP.trans (Qm hs) h3,h4⟩
  ·exact h.elim
 | .cloz t::r,σ,h=>by
  simp only[gh]at h;split at h
  ·rename_i f Cn hs;obtain⟨h1,h⟩:=AA.1 h;split at h
   ·rename_i cs hb;obtain⟨σ',h3,h4⟩:=B9 h;exact⟨σ',BP.trans (Ym hs h1 hb) h3,h4⟩
   ·exact h.elim
  ·exact h.elim
 | .freeze i::r,σ,h=>by
  simp only[gh]at h;split at h
  ·rename_i kd ag sz rows foc hi;split at h
   ·obtain⟨h1,h⟩:=AA.1 h;obtain⟨σ',h3,h4⟩:=B9 h;exact⟨σ',BP.trans (TF hi (by cases kd<;>simp[uH]at h1 ⊢)) h3,h4⟩
   ·exact h.elim
  ·exact h.elim
 | .unC i j::r,σ,h=>by
  simp only[gh]at h;split at h
  ·rename_i cs hi;obtain⟨σ',h3,h4⟩:=B9 h;exact⟨σ',BP.trans (iV hi) h3,h4⟩
  ·exact h.elim
 | .flatten i::r,σ,h=>by
  simp only[gh]at h;split at h
  ·rename_i kd ag sz rows foc hi;split at h
   ·split at h
    ·obtain⟨σ',h3,h4⟩:=B9 h;exact⟨σ',BP.trans (Ql hi) h3,h4⟩
    ·exact h.elim
   ·exact h.elim
  ·exact h.elim
 | .move i::r,σ,h=>by
  simp only[gh]at h;split at h
  ·rename_i kd ag sz rows foc hi;split at h
   ·obtain⟨σ',h3,h4⟩:=B9 h;exact⟨σ',BP.trans (Yl hi) h3,h4⟩
   ·exact h.elim
  ·exact h.elim
end
end Go.AM
namespace Go.AM
open Go Go.RowKit
def slotsOf:List V1→Nat→List (Nat×AV)
 | [],_=>[]
 | x::r,i=>(i,.v x)::slotsOf r (i+1)
def Bq:List AD→Nat→List (Id×AD)
 | [],_=>[]
 | x::r,i=>(.ext i,x)::Bq r (i+1)
theorem HU:∀(l:List V1) (i t:Nat),AQ (slotsOf l i) t= .u∨∃x,i≤t∧l[t - i]?=some x∧AQ (slotsOf l i) t= .v x
 | [],i,t=>.inl rfl
 | x::r,i,t=>by
  show AQ ((i,.v x)::slotsOf r (i+1)) t=_∨∃y,i≤t∧(x::r)[t - i]?=some y∧AQ ((i,.v x)::slotsOf r (i+1)) t= .v y;rw[Bf];simp only[];split
  ·simp_all
  ·rcases HU r (i+1) t with h | ⟨y,h1,h2,h3⟩
   ·exact .inl h
   grind
theorem NV:∀(l:List AD) (i:Nat) (x:Id) (o:AD),AJ (Bq l i) x=some o→∃j,x= .ext j∧i≤j∧l[j - i]?=some o
 | [],i,x,o,h=>by trivial
 | y::r,i,x,o,h=>by
  rw[show Bq (y::r) i=(.ext i,y)::Bq r (i+1)from rfl,Cc]at h
  simp only[AK]at h;split at h
  ·simp_all
  ·obtain⟨j,h1,h2,h3⟩:=NV r (i+1) x o h;grind
theorem NW:∀(l:List AD) (i j:Nat),AJ (Bq l i) (.ext (i+j))=l[j]?
 | [],i,j=>by simp[Bq,AJ]
 | y::r,i,j=>by
  rw[show Bq (y::r) i=(.ext i,y)::Bq r (i+1)from rfl,Cc]
  simp only[AK];cases j with
  | zero=>simp
  | succ j=>
   rw[if_neg (by simp),show i+(j+1)=i+1+j from by omega,NW r (i+1) j]
   simp
def FO (ti:Types) (σ:St):List ResultVar→(List V1→Prop)→Prop
 | [],K=>K []
 | .tmp t::r,K=>DR (AQ σ.slots t) fun x=>FO ti σ r fun xs=>K (x.norm::xs)
 | .cell a t::r,K=>D7 ti t (AQ σ.slots a) (AJ σ.heap) fun out=>DR out.val fun x=>FO ti σ r fun xs=>K (x.norm::xs)
def XW:List V1→AV
 | [x]=>.v x
 | xs=>.t xs
def Cu (nm:List Id) (N:Nat):Id→Id
 | .ext j=>.ext j
 | .loc k=>match nm[k]? with
  | some n=>n
  | none=>.loc N
def NX:AD→Bool
 | .gone=>true
 | _=>false
theorem Pd {o:AD}(h:NX o=true):o= .gone:=by cases o<;>first | rfl | simp[NX]at h
def E6 (h:Heap) (r:Id→Id):List AD→Nat→Prop
 | [],_=>True
 | o::l,j=>match NX o with
  | true=>E6 h r l (j+1)
  | false=>h (.ext j)=some (o.A0 r)∧E6 h r l (j+1)
def Ll (h:Heap) (r:Id→Id):List AD→List Id→Prop
 | [],[]=>True
 | o::l,n::nm=>h n=some (o.A0 r)∧Ll h r l nm
 | _,_=>False
def Fe (post:List AD):List Id→Prop
 | []=>True
 | .loc _::l=>Fe post l
 | .ext j::l=>match post[j]? with
  | some o=>match NX o with
   | true=>Fe post l
   | false=>False
  | none=>False
def JI (ti:Types) (rs:List ResultVar) (σ:St) (res:AV) (post new:List AD):Prop:=
 ∃gs,gh gs σ fun σ=>FO ti σ rs fun xs=>∃nm:List Id,nodupB nm=true∧XW xs=res.A0 (Cu nm σ.next)∧E6 (AJ σ.heap) (Cu nm σ.next) post 0∧Ll (AJ σ.heap) (Cu nm σ.next) new nm∧Fe post nm
theorem NY {h:Heap}{r:Id→Id}:∀{l:List AD}{i j:Nat}{o:AD},E6 h r l i→l[j]?=some o→o= .gone∨h (.ext (i+j))=some (o.A0 r)
 | o::l,i,0,_,hp,hj=>by
  simp at hj;subst hj;unfold E6 at hp;split at hp
  ·rename_i hg;exact .inl (Pd hg)
  ·exact .inr hp.1
 | o::l,i,j+1,_,hp,hj=>by
  simp at hj
  have hp':E6 h r l (i+1):=by
   unfold E6 at hp;grind
  have:=NY (j:=j) hp' hj;grind
theorem GD {h:Heap}{r:Id→Id}:∀{l:List AD}{nm:List Id}{j:Nat}{o:AD},Ll h r l nm→l[j]?=some o→∃n,nm[j]?=some n∧h n=some (o.A0 r)
 | o::l,n::nm,0,_,hp,hj=>by simp at hj;subst hj;exact⟨n,rfl,hp.1⟩
 | o::l,n::nm,j+1,_,hp,hj=>by
  simp at hj;obtain⟨m,h1,h2⟩:=GD (j:=j) hp.2 hj;simp_all
 | [],[],j,_,_,hj=>by simp at hj
 | [],_::_,_,_,hp,_=>hp.elim
 | _::_,[],_,_,hp,_=>hp.elim
theorem Pe {h:Heap}{r:Id→Id}:∀{l:List AD}{nm:List Id},Ll h r l nm→nm.length=l.length
 | o::l,n::nm,hp=>by simp[Pe hp.2]
 | [],[],_=>rfl
 | [],_::_,hp=>hp.elim
 | _::_,[],hp=>hp.elim
theorem JJ {post:List AD}:∀{nm:List Id}{k j:Nat},Fe post nm→nm[k]?=some (.ext j)→post[j]?=some .gone
 | [],k,j,_,h=>by simp at h
 | n::nm,0,j,hp,h=>by
  simp at h;subst h;simp only[Fe]at hp;split at hp
  ·rename_i o ho;split at hp
   ·rename_i hg;rw[ho,Pd hg]
   ·exact hp.elim
  ·exact hp.elim
 | n::nm,k+1,j,hp,h=>by
  simp at h;refine JJ (k:=k) ?_ h;cases n with
  | loc=>exact hp
  | ext i=>
   simp only[Fe]at hp;grind
section
variable {C:Cx}{ti:Types}{σ:St}{g:AP}{a:Act}{w:World}{F:Nat→Prop}
theorem oA (hti:Ay C.P ti) (h1:BH ti) (R:AY C F (AQ σ.slots) (AJ σ.heap) g a w) {p:Tmp}{t:TypeId}{k:Out→Prop}
  (hk:D7 ti t (AQ σ.slots p) (AJ σ.heap) k):∃out v ad,k out∧a.tmps.getD p undef= .pointer (some ad)∧(loadVar t ad).run C.P w= .ok v w∧An w (Av (zone g (AJ σ.heap)) C.X) g (AJ σ.heap) out.val v:=by
 obtain⟨out,hko,_,H⟩:=PL (C:=C) hti h1 t _ hk;obtain⟨v,hv,hr⟩:=H F _ _ g a w _ R (R.slots p) (fun _ _=>rfl)
 refine⟨out,v,?_⟩;revert hv;generalize a.tmps.getD p undef=u;intro hv;cases u with
 | pointer ad=>
  cases ad with
  | none=>trivial
  | some ad=>exact⟨ad,hko,rfl,by trivial,hr⟩
 | _=>trivial
def NZ (tmps:Array Value):ResultVar→Sem Value
 | .tmp t=>pure (tmps.getD t undef)
 | .cell a t=>do loadVar t (←asAddr (tmps.getD a undef))
theorem EA (hti:Ay C.P ti) (h1:BH ti) (R:AY C F (AQ σ.slots) (AJ σ.heap) g a w):∀(rs:List ResultVar) (K:List V1→Prop),FO ti σ rs K→
  ∃xs vs,K xs∧(rs.mapM (NZ a.tmps)).run C.P w= .ok vs w∧vs.length=xs.length∧∀(j:Nat) x v,xs[j]?=some x→vs[j]?=some v→Ah w (Av (zone g (AJ σ.heap)) C.X) g (AJ σ.heap) x v
 | [],K,hk=>⟨[],[],hk,rfl,rfl,by simp⟩
 | .tmp t::r,K,hk=>by
  obtain⟨y,hy,hk⟩:=Cb.1 hk;obtain⟨xs,vs,h2,h3,h4,h5⟩:=EA hti h1 R r _ hk;refine⟨y.norm::xs,a.tmps.getD t undef::vs,h2,by simp[List.mapM_cons,NZ,h3],by simp[h4],fun j x v hx hv=>?_⟩
  match j with
  | 0=>
   simp only[List.getElem?_cons_zero,Option.some.injEq]at hx hv;subst hx;subst hv;have:=R.slots t;rw[hy]at this;exact Ah.norm this
  | j+1=>grind
 | .cell p t::r,K,hk=>by
  obtain⟨out,v0,ad,hk,hp,hl,hr⟩:=oA hti h1 R hk;obtain⟨y,hy,hk⟩:=Cb.1 hk;obtain⟨xs,vs,h2,h3,h4,h5⟩:=EA hti h1 R r _ hk;refine⟨y.norm::xs,v0::vs,h2,by simp only[List.mapM_cons,NZ,hp,asAddr];simp[hl,h3],by simp[h4],fun j x v hx hv=>?_⟩
  match j with
  | 0=>
   simp only[List.getElem?_cons_zero,Option.some.injEq]at hx hv;subst hx;subst hv;rw[hy]at hr;exact Ah.norm hr
  | j+1=>grind
theorem Lm {fn:Func}{vs:List Value}(h:(fn.results.toList.mapM (NZ a.tmps)).run C.P w= .ok vs w):
  (results fn a.tmps).run C.P w= .ok (if h:vs.toArray.size=1 then vs.toArray[0]else .tuple vs.toArray) w:=by
 have e:results fn a.tmps=(do let vs ←fn.results.mapM (NZ a.tmps);pure (if h:vs.size=1 then vs[0]else .tuple vs)):=by
  rfl
 rw[e,Array.mapM_eq_mapM_toList,Sem.run_bind,Sem.run_map,h];rfl
end
def Aw.of (P:Program) (I:Inv) (cl:Bool:=false) (pn:Value→List (Nat×AV)→List (Id×AD)→Nat→Prop:=fun _ _ _ _=>False):Aw where
 I:=I
 cl:=cl
 pn:=pn
 P:=P
 split:=fun c A=>A c
 split_iff:=fun _ _=>Iff.rfl
 lock:=fun p=>p ()
 lock_iff:=fun _=>Iff.rfl
 eqI:=fun a b=>a==b
 eqI_eq:=fun _ _=>rfl
 ltI:=fun a b=>decide (a<b)
 ltI_eq:=fun _ _=>rfl
 leI:=fun a b=>decide (a≤b)
 leI_eq:=fun _ _=>rfl
 eqS:=fun a b=>a.toList==b.toList
 eqS_eq:=fun _ _=>rfl
 ltS:=fun a b=>Op.bytesLess a.toList b.toList
 ltS_eq:=fun _ _=>rfl
 lenI:=fun l=>l.length
 lenI_eq:=fun _=>rfl
 szI:=fun s=>s.size
 szI_eq:=fun _=>rfl
theorem finish {C:Cx}{σ:St}{g2:AP}{a:Act}{w':World}{X:Ak}{post new:List AD}{nm:List Id}(R2:AY C (fun n=>σ.next≤n) (AQ σ.slots) (AJ σ.heap) g2 a w') (hX:∀b o,X b o→C.X b o)
  (hnd:nm.Nodup) (hpost:E6 (AJ σ.heap) (Cu nm σ.next) post 0) (hnewo:Ll (AJ σ.heap) (Cu nm σ.next) new nm) (hhand:Fe post nm):
  DA w' X (fun i=>g2 (Cu nm σ.next i)) (BQ post new)∧(∀i ob b o,BQ post new i=some ob→BS (g2 (Cu nm σ.next i)) ob b o→∃j ob',AJ σ.heap j=some ob'∧BS (g2 j) ob' b o)∧
   (∀k,new.length≤k→g2 (Cu nm σ.next (.loc k))=undef)∧
   ∀(x:AV) v,An w' (Av (zone g2 (AJ σ.heap)) C.X) g2 (AJ σ.heap) (x.A0 (Cu nm σ.next)) v→An w' (Av (zone (fun i=>g2 (Cu nm σ.next i)) (BQ post new)) X) (fun i=>g2 (Cu nm σ.next i)) (BQ post new) x v:=by
 have live:∀i o,BQ post new i=some o→o= .gone∨AJ σ.heap (Cu nm σ.next i)=some (o.A0 (Cu nm σ.next)):=by
  intro i o hi;cases i with
  | ext j=>have:=NY hpost hi;rw[Nat.zero_add]at this;exact this
  | loc k=>
   obtain⟨n,hn,ho⟩:=GD hnewo hi;exact .inr (by simpa [Cu,hn] using ho)
 have hz:∀b o,Av (zone (fun i=>g2 (Cu nm σ.next i)) (BQ post new)) X b o→Av (zone g2 (AJ σ.heap)) C.X b o:=by
  rintro b o (⟨i,ob,hi,h1⟩ | hx)
  ·rcases live i ob hi with rfl | ho
   ·exact h1.elim
   ·exact .inl ⟨_,_,ho,Ca.2 h1⟩
  ·exact .inr (hX b o hx)
 have ht:∀i n sz e,BQ post new i=some (.tok n sz e)→AJ σ.heap (Cu nm σ.next i)=some (.tok n sz e):=fun i n sz e hi=>(live i _ hi).resolve_left (by simp)
 have hw:∀i,isLive (BQ post new i)=true→isLive (AJ σ.heap (Cu nm σ.next i))=true:=by
  intro i hi;cases ho:BQ post new i with
  | none=>rw[ho]at hi;cases hi
  | some o=>
   rw[ho]at hi;rcases live i o ho with rfl | h
   ·cases hi
   ·rw[h];exact DM.trans hi
 have hN:=R2.free σ.next (Nat.le_refl _);refine⟨⟨fun i o hi=>?_,fun i j oi oj b hi hj bi bj=>?_,fun i oi b o hi bi=>?_⟩,fun i ob b o hi hb=>?_,fun k hk=>?_,fun x v h=>An.pull (r:=Cu nm σ.next) (g:=g2) (h:=AJ σ.heap) hz (fun _=>rfl) ht hw h⟩
 ·rcases live i o hi with rfl | ho
  ·trivial
  ·exact BL.pull (r:=Cu nm σ.next) hz (fun _=>rfl) ht hw (R2.heap.objs _ _ ho)
 ·rcases live i oi hi with rfl | ho
  ·exact bi.elim
  rcases live j oj hj with rfl | ho'
  ·exact bj.elim
  have e:=R2.heap.sep _ _ _ _ b ho ho' (C5.2 bi) (C5.2 bj);cases i with
  | ext i=>
   cases j with
   | ext j=>simpa [Cu] using e
   | loc k=>
    obtain⟨n,hn,_⟩:=GD hnewo hj;simp only[Cu,hn]at e;subst e;have:=JJ hhand hn;rw[show BQ post new (.ext i)=post[i]? from rfl,this]at hi
    cases hi
    exact bi.elim
  | loc k=>
   obtain⟨n,hn,_⟩:=GD hnewo hi;cases j with
   | ext j=>
    simp only[Cu,hn]at e;subst e;have:=JJ hhand hn;rw[show BQ post new (.ext j)=post[j]? from rfl,this]at hj
    cases hj
    exact bj.elim
   | loc k'=>
    obtain⟨n',hn',_⟩:=GD hnewo hj;simp only[Cu,hn,hn']at e;subst e;rw[(List.getElem?_inj (List.getElem?_eq_some_iff.1 hn).1 hnd).1 (hn.trans hn'.symm)]
 ·rcases live i oi hi with rfl | ho
  ·exact bi.elim
  ·intro hx;exact R2.heap.apart _ _ b o ho (C5.2 bi) (hX b o hx)
 ·rcases live i ob hi with rfl | ho
  ·exact hb.elim
  ·exact⟨_,_,ho,Ca.2 hb⟩
 ·have:nm[k]?=none:=by simp[Pe hnewo];omega
  simp only[Cu,this];exact hN.1
theorem Lp {P:Program}{fn:Func}{tmps:Array Value}{R:Ending→World→Prop}:∀(ds:List Nat) (w:World),ds.Nodup→(∀r∈ds,w.heap[r]?=some (.deferred (some [])))→
  LeavesIn Fence.wide 0 P fn tmps R [] .returning (ds.foldl (fun w r=>w.putObj r (.deferred none)) w)→LeavesInM Fence.wide 0 P fn tmps R (ds.map DB) .returning w
 | [],w,_,_,h=>h
 | r::ds,w,hn,hd,h=>by
  refine⟨by simp,.inl ⟨r,_,rfl,run_takeDeferred (hd r (by simp)),?_⟩⟩
  refine Lp ds _ (List.nodup_cons.1 hn).2 (fun r' hr'=>?_) h
  exact (World.putObj_heap_other (by grind)).trans (hd r' (by simp[hr']))
theorem Lq:∀(ds:List Nat) (w:World),Dc (fun b=>b∈ds) w (ds.foldl (fun w r=>w.putObj r (.deferred none)) w)
 | [],w=>⟨rfl,rfl,rfl,Nat.le_refl _,fun _ _ _=>rfl⟩
 | r::ds,w=>by
  have:=Lq ds (w.putObj r (.deferred none));refine⟨this.os,this.tape,this.output,by simpa using this.size,fun b hb hn=>?_⟩
  simp only[List.mem_cons,not_or]at hn;exact (this.block b (by simpa using hb) hn.2).trans (World.putObj_heap_other hn.1)
theorem Na:∀(ds:List Nat) (w:World),(ds.foldl (fun w r=>w.putObj r (.deferred none)) w).heap.size=w.heap.size
 | [],_=>rfl
 | r::ds,w=>by
  have:=Na ds (w.putObj r (.deferred none));simp_all
theorem AY.turned {C:Cx}{F:Nat→Prop}{s:AL}{h:Heap}{g:AP}{a a':Act}{w w':World}(R:AY C F s h g a w) {B:Nat→Prop}(A:Dc B w w') (hs:w'.heap.size=w.heap.size) (hB:∀b o,B b→C.X b o) (hI:∀b,C.M.I.blocks b→¬B b) (ht:a'.tmps=a.tmps) (ro:Option Nat)
  (hro:∀l,ro=some l→(∃L,w'.heap[l]?=some (.loop L))∧∀o,C.X l o) (hd:a'.defers=[]) (hcl:C.M.cl=false):
  ∃C2:Cx,C2.M=C.M∧C2.nt=C.nt∧C2.X=C.X∧C2.ro=ro∧C2.w0=w'∧C2.Z0=zone g h∧C2.g0=g∧C2.D=[]∧AY C2 F s h g a' w':=by
 have hX:∀b o,C.X b o→b<w.heap.size:=fun b o hx=>Nat.lt_of_lt_of_le (R.xs b o hx) R.frame.size
 have noz:∀b,(∀o,C.X b o)→∀o,¬zone g h b o:=by
  rintro b hx o ⟨i,ob,hi,hz⟩
  exact R.heap.apart i ob b o hi hz.HA (hx o)
 have hinv:C.M.I.at w' (Av (zone g h) C.X):=by
  obtain⟨i1,i2⟩:=R.inv;refine⟨C.M.I.same (fun b hb=>A.block b (i2 b hb).1 (hI b hb)) i1,fun b hb=>⟨by simp_all,(i2 b hb).2⟩⟩
 refine⟨{M:=C.M,nt:=C.nt,w0:=w',Z0:=zone g h,X:=C.X,g0:=g,hinv:=hinv,ro:=ro,D:=[],hro:=fun l hl=>⟨(hro l hl).1,noz l (hro l hl).2⟩,hD:=by simp,hDn:=List.nodup_nil,hcl:=fun h=>by rw[hcl]at h;cases h},rfl,rfl,rfl,rfl,rfl,rfl,rfl,rfl,?_⟩
 refine R.SF A rfl rfl (fun i o hi=>.inl hi) (fun b o hb=>.inr (hB b o hb)) ?_ (fun b o hx=>.inl (.inr hx)) (fun b o hx=>by grind) (fun i ob b o hi hb hx=>R.heap.apart i ob b o hi hb hx) rfl (fun b o hz=>hz) (fun j=>.refl _) ht ⟨fun _=>hd,fun h=>by rw[hcl]at h;cases h⟩ (fun n hn=>(R.free n hn).2)
 intro i ob b hi hb hBb;exact R.heap.apart i ob b 0 hi hb (hB b 0 hBb)
theorem JK {C:Cx}{P:Program}{sl:List (Nat×AV)}{pre:List AD}{g:AP}{a:Act}{w:World}(hsz:a.tmps.size=C.nt) (hd:DY w (Av (zone g (Ad pre)) C.X) g C.M.cl (AQ sl DT) a.defers C.D) (hsl:∀t,An w (Av (zone g (Ad pre)) C.X) g (Ad pre) (AQ sl t) (a.tmps.getD t undef))
  (RH:DA w C.X g (Ad pre)) (hw0:C.w0=w) (hg0:C.g0=g) (hZ:∀b o,zone g (Ad pre) b o→C.Z0 b o) (hX:∀b o,C.X b o→b<w.heap.size) (hg:∀n,g (.loc n)=undef):Bx C ⟨sl,Bq pre 0,0⟩ a w:=by
 have hh:AJ (Bq pre 0)=Ad pre:=by
  funext i;cases i with
  | ext j=>have:=NW pre 0 j;rw[Nat.zero_add]at this;exact this
  | loc n=>
   cases hc:AJ (Bq pre 0) (.loc n)with
   | none=>rfl
   | some o=>obtain⟨j,e,_⟩:=NV pre 0 _ o hc;simp at e
 refine⟨g,?_⟩;rw[hh];exact⟨hsz,hd,hsl,RH,by rw[hw0];exact Bs.refl _ _,fun j=>by rw[hg0];exact .refl _,fun j ob b o hj hz=>.inl (hZ b o ⟨_,_,hj,hz⟩),by rw[hw0];exact hX,fun n _=>⟨hg n,rfl⟩⟩
theorem Et.body {P:Program}{I:Inv}{ti:Types}(dr:Aw→Nat→Qg) (hti:Ay P ti) (h1:BH ti) (hdr:∀C:Cx,C.P=P→GX C (dr C.M C.nt)) {f:FuncId}{fn:Func}{c:Code}(hf:P.funcs[f]?=some fn) (hb:fn.body=some c)
  (hname:(fn.name== "runtime.NumGoroutine")=false) {args:List V1} {pre:List AD} {Q:AV→List AD→List AD→Prop} (hargs:args.length≤fn.ntmps)
  (hx:∀M:Aw,M.P=P→M.I=I→exec M ti fn.ntmps (dr M fn.ntmps) c ⟨slotsOf args 0,Bq pre 0,0⟩ fun e σ=>match e with
   | .exit _=>False
   | .normal=>∃res post new,Q res post new∧JI ti fn.results.toList σ res post new
   | .ret=>∃res post new,Q res post new∧JI ti fn.results.toList σ res post new)
  (w:World) (X:Ak) (g:AP) (vals:Array Value) (hX:∀b o,X b o→b<w.heap.size) (hI:I.at w (Av (zone g (Ad pre)) X)) (RH:DA w X g (Ad pre)) (hg:∀n,g (.loc n)=undef) (hsz:vals.size=args.length)
  (hargs':∀(j:Nat) x v,args[j]?=some x→vals[j]?=some v→Ah w (Av (zone g (Ad pre)) X) g (Ad pre) x v):
  c.wpIn Fence.wide 0 P (fun e a' w'=>match e with
   | .normal=>(∃ds:List Nat,a'.defers=ds.map DB)∧LeavesInM Fence.wide 0 P fn a'.tmps (fun e w'=>∃v g' res post new,Q res post new∧e= .returned v∧CW w X g pre res post new v w' g') a'.defers .returning w'
   | .ret=>(∃ds:List Nat,a'.defers=ds.map DB)∧LeavesInM Fence.wide 0 P fn a'.tmps (fun e w'=>∃v g' res post new,Q res post new∧e= .returned v∧CW w X g pre res post new v w' g') a'.defers .returning w'
   | _=>False) {tmps:=vals++Array.replicate (fn.ntmps - vals.size) undef,defers:=[]} w:=by
 let C:Cx:={M:=Aw.of P I,nt:=fn.ntmps,w0:=w,Z0:=zone g (Ad pre),X:=X,g0:=g,hinv:=hI,ro:=none,D:=[],hro:=fun l hl=>(by cases hl),hD:=fun r hr=>(by cases hr),hDn:=List.nodup_nil,hcl:=fun h=>(by cases h)}
 have R0:Bx C ⟨slotsOf args 0,Bq pre 0,0⟩ {tmps:=vals++Array.replicate (fn.ntmps - vals.size) undef,defers:=[]} w:=by
  refine JK (P:=P) (by simp[C];omega) rfl (fun t=>?_) RH rfl rfl (fun _ _ h=>h) hX hg
  rcases HU args 0 t with h | ⟨x,_,h2,h3⟩
  ·rw[h];trivial
  ·rw[h3];simp only[Nat.sub_zero]at h2;have hlt:t<vals.size:=by grind
   have:(vals++Array.replicate (fn.ntmps - vals.size) undef).getD t undef=vals[t]:=by
    simp[Array.getElem?_append,hlt]
   show Ah w _ g _ x ((vals++Array.replicate (fn.ntmps - vals.size) undef).getD t undef);rw[this];exact hargs' t x _ h2 (by simp[hlt])
 refine wpIn_mono (Bg (M:=Aw.of P I) (ro:=none) hti h1 (fun C hC hn=>by
  have:=hdr C (by show C.M.P=P;rw[hC];rfl)
  grind) c _ _ C _ w rfl rfl rfl (fun h=>by cases h) (hx (Aw.of P I) rfl rfl) R0) ?_
 have fin:∀(C':Cx) (σ:St) (a':Act) (w':World),Dd C C'→(∃res post new,Q res post new∧JI ti fn.results.toList σ res post new)→Bx C' σ a' w'→
   (∃ds:List Nat,a'.defers=ds.map DB)∧LeavesInM Fence.wide 0 P fn a'.tmps (fun e w'=>∃v g' res post new,Q res post new∧e= .returned v∧CW w X g pre res post new v w' g') a'.defers .returning w':=by
  rintro C' σ0 a' w' hle ⟨res,post,new,hQ,gs,hfin⟩ R0
  obtain⟨σ,hweak,hfin⟩:=B9 hfin;obtain⟨g1,R1⟩:=hweak _ _ _ R0;have hcf:C'.M.cl=false:=by rw[hle.M];rfl
  refine⟨⟨_,R1.marks hcf⟩,?_⟩;rw[R1.marks hcf];obtain⟨ds,hds,hds2⟩:=hle.marks;have hds:C'.D=ds:=by grind
  refine Lp _ _ C'.hDn (fun r hr=>(R1.kept (C'.hD r hr).1 (C'.hD r hr).2).1) ?_
  have A:=Lq C'.D w';generalize hw2:C'.D.foldl (fun w r=>w.putObj r (.deferred none)) w'=w2 at A ⊢
  have hsz2:w2.heap.size=w'.heap.size:=by rw[←hw2];exact Na _ _
  obtain⟨C2,c1,c2,c3,c4,c5,c6,c7,c8,R2⟩:=R1.turned (a':={tmps:=a'.tmps,defers:=[]}) A hsz2 (fun b o hb=>(hds2 b (hds▸hb)).2 o) (fun b hb hd=>(R1.inv.2 b hb).2 0 (.inr ((hds2 b (hds▸hd)).2 0))) rfl none (fun l hl=>by cases hl) rfl hcf
  have hti2:Ay C2.P ti:=by show Ay C2.M.P ti;rw[c1,hle.M];exact hti
  have hP:C2.P=P:=by show C2.M.P=P;rw[c1,hle.M];rfl
  obtain⟨xs,vs,⟨nm,hnd,hres,hpost,hnewo,hhand⟩,hrun,hlen,hrel⟩:=EA (C:=C2) hti2 h1 R2 _ _ hfin;obtain⟨f1,f2,f3,f4⟩:=finish (X:=X) R2 (fun b o hx=>by rw[c3];exact hle.X b o hx) (CB.1 hnd) hpost hnewo hhand
  obtain⟨d1,d2,d3⟩:=hle.down R1;have hrr:=Lm (C:=C2) hrun;rw[hP]at hrr;refine⟨_,hrr,_,fun i=>g1 (Cu nm σ.next i),res,post,new,hQ,rfl,⟨f1,?_,?_,fun j=>d2 j,fun i ob b o hi hb=>?_,f3⟩⟩
  ·refine f4 res _ ?_;rw[←hres]
   have other:xs.length≠1→An w2 (Av (zone g1 (AJ σ.heap)) C2.X) g1 (AJ σ.heap) (.t xs) (.tuple vs.toArray):=fun _=>
    ⟨vs.toArray,rfl,by simpa using hlen,fun j x v hx hv=>hrel j x v hx (by simpa using hv)⟩
   match xs,vs,hlen,hrel,other with
   | [x],[v],_,hrel,_=>exact hrel 0 x v rfl rfl
   | [],[],_,_,other=>exact other (by simp)
   | x::y::xs,v::u::vs,hl,_,other=>
    have:¬(v::u::vs).toArray.size=1:=by simp
    simp only[dif_neg this];exact other (by simp)
  ·exact d1.then (Z':=fun b _=>b∈C'.D) ⟨A.os,A.tape,A.output,A.size,fun b hb hn=>A.block b hb (hn 0),fun b o u hu hn=>A.cell hu hn⟩ (fun p o hp=>.inr (hds2 p (hds▸hp)).1)
  grind
 intro e a' w' hq;cases e with
 | normal=>obtain⟨C',hle,σ,hf',hr⟩:=hq;grind
 | ret=>obtain⟨C',hle,σ,hf',hr⟩:=hq;grind
 | exit id=>obtain⟨C',hle,σ,hf',hr⟩:=hq;exact hf'.elim
 | goto l=>exact hq.elim
 | panic ch=>obtain⟨C',hle,v0,s,h,nx,hpn,_⟩:=hq;rw[hle.M]at hpn;exact hpn.elim
 | outgrown=>exact hq.elim
theorem Et.intro {P:Program}{I:Inv}{ti:Types}(dr:Aw→Nat→Qg) (hti:Ay P ti) (h1:BH ti) (hdr:∀C:Cx,C.P=P→GX C (dr C.M C.nt)) {f:FuncId}{fn:Func}{c:Code}(hf:P.funcs[f]?=some fn) (hb:fn.body=some c)
  (hname:(fn.name== "runtime.NumGoroutine")=false) {args:List V1} {pre:List AD} {Q:AV→List AD→List AD→Prop} (hargs:args.length≤fn.ntmps)
  (hx:∀M:Aw,M.P=P→M.I=I→exec M ti fn.ntmps (dr M fn.ntmps) c ⟨slotsOf args 0,Bq pre 0,0⟩ fun e σ=>match e with
   | .exit _=>False
   | .normal=>∃res post new,Q res post new∧JI ti fn.results.toList σ res post new
   | .ret=>∃res post new,Q res post new∧JI ti fn.results.toList σ res post new):Et P I f args pre Q:=by
 refine⟨⟨fn,c,hf,hb,hname⟩,fun w X g vals hX hI RH hg hsz hargs'=>callsIn_wide.1 (callsIn_of_wp_marks (n:=0) hf hb trivial (wpIn_mono (Et.body dr hti h1 hdr hf hb hname hargs hx w X g vals hX hI RH hg hsz hargs') ?_))⟩
 intro e a' w' hq;cases e with
 | normal=>exact hq.2
 | ret=>exact hq.2
 | exit id=>exact hq.elim
 | goto l=>exact hq.elim
 | panic ch=>exact hq.elim
 | outgrown=>exact hq.elim
end Go.AM
namespace Go.AM
open Go Go.RowKit
def TG:List Tmp→List V1→List (Nat×AV)→List (Nat×AV)
 | p::ps,x::xs,s=>TG ps xs ((p,.v x)::s)
 | _,_,s=>s
theorem TH {ps:Array Tmp}{vals tmps:Array Value}:(Ea ps vals tmps).size=tmps.size:=by
 unfold Ea;rw[←Array.foldl_toList];generalize (ps.zip vals).toList=l
 induction l generalizing tmps with
 | nil=>rfl
 | cons x l ih=>
  simp_all
theorem Pf {w:World}{Z:Ak}{g:AP}{h:Heap}:∀{ps:List Tmp}{xs:List V1}{vs:List Value}{s:List (Nat×AV)}{tmps:Array Value},xs.length=ps.length→vs.length=xs.length→(∀p∈ps,p<tmps.size)→
  (∀(j:Nat) x v,xs[j]?=some x→vs[j]?=some v→Ah w Z g h x v)→(∀t,An w Z g h (AQ s t) (tmps.getD t undef))→
  ∀t,An w Z g h (AQ (TG ps xs s) t) (((ps.zip vs).foldl (fun t x=>t.setIfInBounds x.1 x.2) tmps).getD t undef)
 | [],[],[],s,tmps,_,_,_,_,hs=>hs
 | p::ps,x::xs,v::vs,s,tmps,h1,h2,h3,h4,hs=>by
  refine Pf (ps:=ps) (xs:=xs) (vs:=vs) (by simpa using h1) (by simpa using h2) (fun q hq=>by simp_all) (fun j x v hx hv=>h4 (j+1) x v (by simpa using hx) (by simpa using hv)) ?_
  intro t;rw[Bf];simp only[];split
  ·subst t;have:=h3 p (by simp)
   rw[Array.getD_eq_getD_getElem?,Array.getElem?_setIfInBounds_self_of_lt this];exact h4 0 x v rfl rfl
  ·rename_i hne;rw[Array.getD_eq_getD_getElem?,Array.getElem?_setIfInBounds_ne (Ne.symm hne),←Array.getD_eq_getD_getElem?];exact hs t
 | [],_::_,_,_,_,h1,_,_,_,_=>by simp at h1
 | _::_,[],_,_,_,h1,_,_,_,_=>by simp at h1
 | [],[],_::_,_,_,_,h2,_,_,_=>by simp at h2
 | _::_,_::_,[],_,_,_,h2,_,_,_=>by simp at h2
def Eb:Ct→Jump
 | .normal=>none
 | .ret=>some none
 | .exit id=>some (some id)
def uI (σ:St) (post new:List AD):Prop:=
 ∃gs,gh gs σ fun σ=>∃nm:List Id,nodupB nm=true∧E6 (AJ σ.heap) (Cu nm σ.next) post 0∧Ll (AJ σ.heap) (Cu nm σ.next) new nm∧Fe post nm
theorem Fc.intro {P:Program}{I:Inv}{ti:Types}(dr:Aw→Nat→Qg) (hti:Ay P ti) (h1:BH ti) (hdr:∀C:Cx,C.P=P→GX C (dr C.M C.nt)) {r:RF}{sl:List (Nat×AV)}{args:List V1}{pre:List AD}{Q:Jump→List AD→List AD→Prop}
  (hlen:args.length=r.params.size) (hps:Bd (fun p=>Nat.blt p r.nt) r.params.toList=true)
  (hx:∀M:Aw,M.P=P→M.I=I→exec M ti r.nt (dr M r.nt) r.assign ⟨TG r.params.toList args sl,Bq pre 0,0⟩ fun e σ=>match e with
   | .normal=>exec M ti r.nt (dr M r.nt) r.body σ fun e σ=>∃post new,Q (Eb e) post new∧uI σ post new
   | _=>False):Fc P I r sl args pre Q:=by
 refine⟨hlen,?_⟩;intro l L w X g vals hX hXl hl l1 l2 l3 l4 l5 l6 hI RH hg hsz hargs hsl;have hlt:l<w.heap.size:=(Array.getElem?_eq_some_iff.1 hl).1
 have noz:∀{X:Ak} {w:World} {g:AP} {h:Heap},DA w X g h→(∀o,X l o)→∀o,¬zone g h l o:=by
  rintro X w g h RH hx o ⟨i,ob,hi,hz⟩
  exact RH.apart i ob l o hi hz.HA (hx o)
 let C:Cx:={M:=Aw.of P I,nt:=r.nt,w0:=w,Z0:=zone g (Ad pre),X:=X,g0:=g,hinv:=hI,ro:=some l,D:=[],hro:=fun l' hl'=>(by grind),hD:=fun r hr=>(by cases hr),hDn:=List.nodup_nil,hcl:=fun h=>(by cases h)}
 have hdr':∀C':Cx,C'.M=Aw.of P I→C'.nt=r.nt→GX C' (dr (Aw.of P I) r.nt):=fun C' hC hn=>by
  have:=hdr C' (by show C'.M.P=P;rw[hC];rfl)
  simp_all
 have R0:Bx C ⟨TG r.params.toList args sl,Bq pre 0,0⟩ {tmps:=Ea L.params vals L.tmps,defers:=[]} w:=by
  refine JK (P:=P) (by show (Ea L.params vals L.tmps).size=r.nt;rw[TH];exact l6) rfl (fun t=>?_) RH rfl rfl (fun _ _ h=>h) hX hg
  have:=Pf (ps:=r.params.toList) (xs:=args) (vs:=vals.toList) (s:=sl) (tmps:=L.tmps) (by simpa using hlen) (by simpa using hsz) (fun p hp=>by
   have:=BE.1 hps p hp;simp_all) (fun j x v hx hv=>hargs j x v hx (by simpa using hv)) hsl t
  show An _ _ _ _ _ ((Ea L.params vals L.tmps).getD t undef);unfold Ea;rw[l3,←Array.foldl_toList,Array.toList_zip];exact this
 have h1x:=hx (Aw.of P I) rfl rfl;refine roundIn_of_wpIn (F:=Fence.wide) trivial ?_;rw[l4,l5];refine wpIn_mono (Bg (M:=Aw.of P I) (ro:=some l) hti h1 hdr' r.assign _ _ C _ w rfl rfl rfl (fun h=>by cases h) h1x R0) ?_
 intro e a1 w1 hq;cases e with
 | normal=>
  obtain⟨C1,hle,σ1,hk1,g1,R1⟩:=hq;obtain⟨d1,d2,d3⟩:=hle.down R1;have hXl1:∀o,C1.X l o:=fun o=>hle.X l o (hXl o)
  have hl1:w1.heap[l]?=some (.loop L):=(d1.block l hlt (noz RH hXl)).trans hl;have hlt1:l<w1.heap.size:=(Array.getElem?_eq_some_iff.1 hl1).1;refine⟨w1.putObj l (.loop {L with state:=.busy}),run_beginRound hl1 l1,?_⟩
  have A:Dc (fun b=>b=l) w1 (w1.putObj l (.loop {L with state:=.busy})):=⟨rfl,rfl,rfl,by simp,fun b _ hb=>World.putObj_heap_other hb⟩
  have hl2:(w1.putObj l (.loop {L with state:=.busy})).heap[l]?=some (.loop {L with state:=.busy}):=World.putObj_heap_same hlt1
  have hc1:C1.M.cl=false:=by rw[hle.M];rfl
  obtain⟨C2,c1,c2,c3,c4,c5,c6,c7,c8,R2⟩:=R1.turned (a':={tmps:=a1.tmps,defers:=[]}) A World.putObj_size (fun b o hb=>by subst hb;exact hXl1 o) (fun b hb hd=>(R1.inv.2 b hb).2 0 (.inr (by subst hd;exact hXl1 0))) rfl (some l) (fun l' hl'=>by simp_all) rfl hc1
  have ha1:a1={tmps:=a1.tmps,defers:=[]}:=by
   have hd:=R1.marks hc1;rw[hle.same (by simp[C])]at hd
   show a1=⟨a1.tmps,[]⟩;rw[←show a1.defers=[]from hd]
  rw[ha1];refine wpIn_mono (Bg (M:=Aw.of P I) (ro:=some l) hti h1 hdr' r.body σ1 _ C2 _ _ (c1.trans hle.M) (c2.trans hle.nt) c4 (fun h=>by cases h) hk1 ⟨g1,R2⟩) ?_
  have fin:∀(e:Ct) (a2:Act) (w3:World),(∃C3,Dd C2 C3∧∃σ,(∃post new,Q (Eb e) post new∧uI σ post new)∧Bx C3 σ a2 w3)→
    ∃v w',(Instr.endRound l ((Eb e).map E2)).run P w3= .ok v w'∧∃jump g' post new,Q jump post new∧Ending.returned v= .returned (.bool jump.isNone)∧PU l L w X g pre jump post new w' g':=by
   rintro e a2 w3 ⟨C3,hle3,σ0,⟨post,new,hQ,gs,hfin⟩,R3⟩
   obtain⟨σ,hweak,nm,hnd,hpost,hnewo,hhand⟩:=B9 hfin;obtain⟨g3,R3⟩:=hweak _ _ _ R3;obtain⟨f1,f2,f3⟩:=hle3.down R3;have hXl3:∀o,C3.X l o:=fun o=>hle3.X l o (by rw[c3];exact hXl1 o)
   have hz2:∀o,¬C2.Z0 l o:=by rw[c6];exact noz R1.heap hXl1
   have hl3:w3.heap[l]?=some (.loop {L with state:=.busy}):=by
    have:=f1.block l (by grind) hz2
    grind
   have hlt3:l<w3.heap.size:=(Array.getElem?_eq_some_iff.1 hl3).1;refine⟨_,_,run_endRound _ hl3,?_⟩;have A3:Dc (fun b=>b=l) w3 (w3.putObj l (.loop {L with state:=if ((Eb e).map E2).isNone then .ready else .done,pending:=(Eb e).map E2})):=⟨rfl,rfl,rfl,by simp,fun b _ hb=>World.putObj_heap_other hb⟩
   have hc3:C3.M.cl=false:=by rw[hle3.M,c1];exact hc1
   obtain⟨C4,k1,k2,k3,k4,k5,k6,k7,k8,R4⟩:=R3.turned (a':={tmps:=a2.tmps,defers:=[]}) A3 World.putObj_size (fun b o hb=>by subst hb;exact hXl3 o) (fun b hb hd=>(R3.inv.2 b hb).2 0 (.inr (by subst hd;exact hXl3 0))) rfl none (fun l' hl'=>by cases hl') rfl hc3
   obtain⟨q1,q2,q3,_⟩:=finish (X:=X) R4 (fun b o hx=>by rw[k3];exact hle3.X b o (by rw[c3];exact hle.X b o hx)) (CB.1 hnd) hpost hnewo hhand
   have isn:((Eb e).map E2).isNone=(Eb e).isNone:=by cases Eb e<;>rfl
   have zin:∀b o,C2.Z0 b o→zone g (Ad pre) b o∨w.heap.size≤b:=by
    intro b o hz;rw[c6]at hz;obtain⟨i,ob,hi,h3⟩:=hz;exact d3 i ob b o hi h3
   have fr:Bs (fun b o=>zone g (Ad pre) b o∨b=l) w (w3.putObj l (.loop {L with state:=if ((Eb e).map E2).isNone then .ready else .done,pending:=(Eb e).map E2})):=by
    have s1:Bs (fun b o=>zone g (Ad pre) b o∨b=l) w w1:=d1.weaken (fun b o h=>.inl h)
    have one:∀{a b:World},Dc (fun b=>b=l) a b→Bs (fun b _=>b=l) a b:=fun A=>⟨A.os,A.tape,A.output,A.size,fun b hb hn=>A.block b hb (fun e=>hn 0 e),fun b o u hu hn=>A.cell hu hn⟩
    have s2:=s1.then (one A) (fun p o h=>.inl (.inr h))
    have s3:=s2.then (by have:=f1;rw[c5]at this;exact this) (fun p o h=>(zin p o h).imp .inl id)
    exact s3.then (one A3) (fun p o h=>.inl (.inr h))
   refine⟨Eb e,fun i=>g3 (Cu nm σ.next i),post,new,hQ,by rw[isn],⟨q1,fr,?_,fun j=>?_,fun i ob b o hi hb=>?_,q3⟩⟩
   ·rw[World.putObj_heap_same hlt3,isn]
   ·have e1:=d2 j;have e2:=f2 j;rw[c7]at e2;exact e1.trans e2
   ·obtain⟨j,ob',hj,hz⟩:=q2 i ob b o hi hb;rcases f3 j ob' b o hj hz with h | h
    ·exact zin b o h
    ·rw[c5,World.putObj_size]at h;exact .inr (Nat.le_trans d1.size h)
  intro e a2 w3 hq;cases e with
  | normal=>exact fin .normal a2 w3 hq
  | ret=>exact fin .ret a2 w3 hq
  | exit id=>exact fin (.exit id) a2 w3 hq
  | goto l=>exact hq.elim
  | panic ch=>obtain⟨C',hle',v0,s,h,nx,hpn,_⟩:=hq;rw[hle'.M,c1.trans hle.M]at hpn;exact hpn.elim
  | outgrown=>exact hq.elim
 | exit id=>obtain⟨_,_,_,hk,_⟩:=hq;exact hk.elim
 | ret=>obtain⟨_,_,_,hk,_⟩:=hq;exact hk.elim
 | goto l=>exact hq.elim
 | panic ch=>obtain⟨C',hle,v0,s,h,nx,hpn,_⟩:=hq;rw[hle.M]at hpn;exact hpn.elim
 | outgrown=>exact hq.elim
end Go.AM
namespace Go.AM
open Go Go.RowKit
section
variable {P:Program}{ti:Types}
theorem Qn (hti:Ay P ti) (h1:BH ti) (hm:P.follows .mixedOrders=true):∀C:Cx,C.P=P→GX C (BK ti C.M C.nt):=fun C hC=>by
 have hti':Ay C.P ti:=by rw[hC];exact hti
 have hm':C.P.follows .mixedOrders=true:=by rw[hC];exact hm
 exact nY hti' h1 hm'
variable {pre:List AD}{rs:List ResultVar}
theorem Et.of {I:Inv}(hti:Ay P ti) (h1:BH ti) (hm:P.follows .mixedOrders=true) {f:FuncId}{fn:Func}{c:Code}(hf:P.funcs[f]?=some fn) (hb:fn.body=some c)
  (hname:(fn.name== "runtime.NumGoroutine")=false) {args:List V1} {Q:AV→List AD→List AD→Prop} {nt:Nat} (hnt:fn.ntmps=nt) (hargs:Nat.ble args.length nt=true) (hrs:fn.results.toList=rs)
  (hx:∀M:Aw,M.P=P→M.I=I→exec M ti nt (BK ti M nt) c ⟨slotsOf args 0,Bq pre 0,0⟩ fun e σ=>match e with
   | .exit _=>False
   | .normal=>∃res post new,Q res post new∧JI ti rs σ res post new
   | .ret=>∃res post new,Q res post new∧JI ti rs σ res post new):Et P I f args pre Q:=by
 subst hnt;subst hrs;exact Et.intro (fun M nt=>BK ti M nt) hti h1 (Qn hti h1 hm) hf hb hname (Nat.le_of_ble_eq_true hargs) hx
variable {post new:List AD}
theorem C0.of {I:Inv}(hti:Ay P ti) (h1:BH ti) (hm:P.follows .mixedOrders=true) {f:FuncId}{fn:Func}{c:Code}(hf:P.funcs[f]?=some fn) (hb:fn.body=some c)
  (hname:(fn.name== "runtime.NumGoroutine")=false) {args:List V1} {res:AV} {nt:Nat} (hnt:fn.ntmps=nt) (hargs:Nat.ble args.length nt=true) (hrs:fn.results.toList=rs)
  (hx:∀M:Aw,M.P=P→M.I=I→exec M ti nt (BK ti M nt) c ⟨slotsOf args 0,Bq pre 0,0⟩ fun e σ=>match e with
   | .exit _=>False
   | .normal=>∃r p n,(r=res∧p=post∧n=new)∧JI ti rs σ r p n
   | .ret=>∃r p n,(r=res∧p=post∧n=new)∧JI ti rs σ r p n):C0 P I f args pre res post new:=
 Et.of hti h1 hm hf hb hname hnt hargs hrs hx
theorem iW {σ:St}{res:AV}(h:FO ti σ rs fun xs=>∃nm:List Id,nodupB nm=true∧XW xs=res.A0 (Cu nm σ.next)∧E6 (AJ σ.heap) (Cu nm σ.next) post 0∧Ll (AJ σ.heap) (Cu nm σ.next) new nm∧Fe post nm):
  ∃r p n,(r=res∧p=post∧n=new)∧JI ti rs σ r p n:=⟨_,_,_,⟨rfl,rfl,rfl⟩,[],h⟩
end
section
variable {M:Aw}{A:Bool→Prop}
theorem oB {a b:Int}(h1:a≤b→A true) (h0:b<a→A false):M.split (M.leI a b) A:=by
 rw[M.split_iff,M.leI_eq];grind
end
section
variable {M:Aw}{f:FuncId}{args:List V1}{fresh:Nat}{h:Heap}{k:Out→Prop}{targs:List V1}{res:AV}
theorem VV {ti:Types}{o:Oper}{c:Call}{x:Operand}{s:AL}(ho:o.op= .call c) (hc:c.callee= .value x) (hk:I6 h (fun h'=>Ag M ti o fresh s h') k):Dg M ti o fresh s h k:=by
 unfold Dg;simp_all
theorem oC {ti:Types}{o:Oper}{c:Call}{x:Operand}{s:AL}{X:Prop}(ho:o.op= .call c) (hc:c.callee= .value x) (hk:Ag M ti o fresh s h k):M.lock fun _=>Dg M ti o fresh s h k∨X:=
 (M.lock_iff _).2<| .inl<| VV ho hc ⟨[],hk⟩
theorem oD {A X:Prop}(hk:X):M.lock fun _=>A∨X:=(M.lock_iff _).2 (.inr hk)
def TJ (h:Heap) (r:Id→Id):List Id→List AD→Prop
 | [],[]=>True
 | i::m,o::pre=>h i=some (o.A0 r)∧TJ h r m pre
 | _,_=>False
theorem Dz {r:Id→Id}:∀{m:List Id}{pre:List AD},TJ h r m pre→m.length=pre.length∧∀(j:Nat) i o,m[j]?=some i→pre[j]?=some o→h i=some (o.A0 r)
 | [],[],_=>⟨rfl,by simp⟩
 | i::m,o::pre,hp=>by
  obtain⟨h1,h2⟩:=Dz hp.2;refine⟨by simp[h1],fun j i' o' hi ho=>?_⟩
  match j with
  | 0=>simp at hi ho;subst hi;subst ho;exact hp.1
  | j+1=>grind
 | [],_::_,hp=>hp.elim
 | _::_,[],hp=>hp.elim
theorem Kx {P:Program}{I:Inv}(hP:M.P=P) (hI:M.I=I) (m:List Id) {pre post new:List AD}(ht:C0 P I f targs pre res post new) (he:args=targs.map (V1.A0 (BG m fresh))) (hm:m.Nodup)
  (hpre:TJ h (BG m fresh) m pre) (hkd:Bi pre post) (hn:new.length≤31) (hk:k ⟨res.A0 (BG m fresh),m,MQ m (BG m fresh) post++Cl fresh (BG m fresh) 0 new⟩):
  M.lock fun _=>Jn M.P M.I f args fresh h k:=
 (M.lock_iff _).2 ⟨m,targs,pre,res,post,new,hP▸hI▸ht,he,(Dz hpre).1,hm,(Dz hpre).2,hkd,hn,hk⟩
end
theorem drawn {M:Aw}{p:Unit→Prop}{K:Prop}(hd:p ()) (hk:K):M.lock p∧K:=⟨(M.lock_iff _).2 hd,hk⟩
section
variable {M:Aw}{L L':List D}{N i:Int}(hN:0≤N∧L.length=N.toNat)
include hN
end
end Go.AM
namespace Go.AM
open Go Go.RowKit
def fcP (p:Id→Bool):FC→Bool
 | .p i=>p i
 | _=>true
def oE (p:Id→Bool):CV→Bool
 | .ptr i _=>p i
 | .fn _ cap=>Bd p cap
 | .lst i _ _ _=>p i
 | .sl i _=>p i
 | .map i=>p i
 | .ap i _ _ _ _=>p i
 | .ow i=>p i
 | .op i _ _ _=>p i
 | .yl i=>p i
 | .bm _ i=>p i
 | .fz _ cs=>Bd (fcP p) cs
 | .fb i=>p i
 | _=>true
def v1P (p:Id→Bool):V1→Bool
 | .d _=>true
 | .c x=>oE p x
 | .agg cs=>Bd (oE p) cs
def uJ (p:Id→Bool):AV→Bool
 | .u=>true
 | .v x=>v1P p x
 | .t xs=>Bd (v1P p) xs
 | .df _ cs _=>Bd (fcP p) cs
def Nb (p:Id→Bool):AD→Bool
 | .cells cs=>Bd (oE p) cs
 | .tok ..=>true
 | .map ..=>true
 | .arr cs1 _ _ _ cs2=>match Bd (oE p) cs1 with
  | true=>Bd (oE p) cs2
  | false=>false
 | .tree _ _ _ _ foc=>match foc with
  | some x=>Bd (oE p) x.2
  | none=>true
 | .pmap _ _ _ _ foc=>match foc with
  | some x=>p x.2
  | none=>true
 | .part ..=>true
 | .fnl _ cs _=>Bd (fcP p) cs
 | .gone=>true
 | .rnd _ sl=>Bd (fun x=>uJ p x.2) sl
 | .rndX _=>true
section
variable {p:Id→Bool}{f e:Id→Id}(hp:∀i,p i=true→f (e i)=i)
include hp
theorem Qo {cs:List FC}(h:Bd (fcP p) cs=true):(cs.map (FC.A0 e)).map (FC.A0 f)=cs:=by
 rw[List.map_map];rw[BE]at h;refine Bz fun c hc=>?_
 have:=h c hc;cases c with
 | p i=>simp only[Function.comp,FC.A0];rw[hp _ this]
 | d x=>rfl
 | h=>rfl
theorem iX {c:CV}(h:oE p c=true):(c.A0 e).A0 f=c:=by
 cases c<;>simp only[CV.A0,oE]at h ⊢
 ·rw[hp _ h]
 ·rw[List.map_map];congr 1;rw[BE]at h;exact Bz fun i hi=>hp _ (h i hi)
 ·rw[hp _ h]
 ·rw[hp _ h]
 ·rw[hp _ h]
 ·rw[hp _ h]
 ·rw[hp _ h]
 ·rw[hp _ h]
 ·rw[hp _ h]
 ·rw[hp _ h]
 ·rw[Qo hp h]
 ·rw[hp _ h]
theorem J9 {cs:List CV}(h:Bd (oE p) cs=true):(cs.map (CV.A0 e)).map (CV.A0 f)=cs:=by
 rw[List.map_map];rw[BE]at h;exact Bz fun i hi=>iX hp (h i hi)
theorem VW {c:V1}(h:v1P p c=true):(c.A0 e).A0 f=c:=by
 cases c<;>simp only[V1.A0,v1P]at h ⊢
 ·rw[iX hp h]
 ·rw[J9 hp h]
theorem VX {c:AV}(h:uJ p c=true):(c.A0 e).A0 f=c:=by
 cases c<;>simp only[AV.A0,uJ]at h ⊢
 ·rw[VW hp h]
 ·rw[List.map_map];congr 1;rw[BE]at h;exact Bz fun i hi=>VW hp (h i hi)
 ·rw[Qo hp h]
theorem Mb {c:AD}(h:Nb p c=true):(c.A0 e).A0 f=c:=by
 cases c<;>simp only[AD.A0,Nb]at h ⊢
 ·rw[J9 hp h]
 ·split at h
  ·rename_i h1;rw[J9 hp h,J9 hp h1]
  ·cases h
 ·congr 1;split at h
  ·show some (_,List.map (CV.A0 f) (List.map (CV.A0 e) _))=_;rw[J9 hp h]
  ·rfl
 ·grind
 ·rw[Qo hp h]
 ·rw[List.map_map];congr 1;rw[BE]at h;refine Bz fun i hi=>?_
  show (i.1,(i.2.A0 e).A0 f)=i;rw[VX hp (h i hi)]
end
theorem iY {σ σ':St}(r:Id→Id) (hext:∀j,r (.ext j)= .ext j) (hbig:∀n,σ'.next≤n→∃N,σ.next≤N∧r (.loc n)= .loc N)
  (hs:∀t,AQ σ'.slots t= .u∨AQ σ.slots t=(AQ σ'.slots t).A0 r) (hh:∀i o,AJ σ'.heap i=some o→AJ σ.heap (r i)=some (o.A0 r))
  (hinj:∀i j o o',AJ σ'.heap i=some o→AJ σ'.heap j=some o'→r i=r j→i=j) (hlow:∀n,σ'.next≤n→AJ σ'.heap (.loc n)=none):BP σ σ':=by
 rintro C a w ⟨g,R⟩
 let g':AP:=fun i=>g (r i)
 have hz:∀b o,zone g' (AJ σ'.heap) b o→zone g (AJ σ.heap) b o:=by
  rintro b o ⟨i,ob,hi,h1⟩
  exact⟨r i,_,hh i ob hi,Ca.2 h1⟩
 have hzz:∀b o,Av (zone g' (AJ σ'.heap)) C.X b o→Av (zone g (AJ σ.heap)) C.X b o:=fun b o hx=>hx.imp (hz b o) id
 have ht:∀i n sz e,AJ σ'.heap i=some (.tok n sz e)→AJ σ.heap (r i)=some (.tok n sz e):=fun i n sz e hi=>hh i _ hi
 have hw:∀i,isLive (AJ σ'.heap i)=true→isLive (AJ σ.heap (r i))=true:=by
  intro i hi;cases hc:AJ σ'.heap i with
  | none=>rw[hc]at hi;cases hi
  | some o=>
   rw[hh i o hc];rw[hc]at hi;exact DM.trans hi
 have hdf:DY w (Av (zone g' (AJ σ'.heap)) C.X) g' C.M.cl (AQ σ'.slots DT) a.defers C.D:=by
  rcases hs DT with e | e
  ·rw[e];exact R.defers.un (by simp)
  ·have:=R.defers;rw[e]at this;exact DY.pull (r:=r) hzz (fun _=>rfl) this
 refine⟨g',R.size,hdf,fun t=>?_,⟨fun i o hi=>BL.pull (r:=r) (g':=g') hzz (fun _=>rfl) ht hw (R.heap.objs _ _ (hh i o hi)),fun i j oi oj b hi hj bi bj=>?_,fun i oi b o hi bi=>R.heap.apart _ _ b o (hh i oi hi) (C5.2 bi)⟩,R.frame,fun j=>?_,
  fun j ob b o hj hz'=>R.within _ _ b o (hh j ob hj) (Ca.2 hz'),R.xs,fun n hn=>⟨?_,hlow n hn⟩⟩
 ·rcases hs t with e | e
  ·rw[e];trivial
  ·have:=R.slots t;rw[e]at this;exact An.pull (r:=r) hzz (fun _=>rfl) ht hw this
 ·exact hinj i j oi oj hi hj (R.heap.sep _ _ _ _ b (hh i oi hi) (hh j oj hj) (C5.2 bi) (C5.2 bj))
 ·show CU (C.g0 (.ext j)) (g (r (.ext j)));rw[hext];exact R.ext j
 ·obtain⟨N,hN,e⟩:=hbig n hn;show g (r (.loc n))=undef;rw[e];exact (R.free N hN).1
def rJ:List (Nat×Nat)→Nat→Option Nat
 | [],_=>none
 | (a,b)::l,k=>match Nat.beq a k with
  | true=>some b
  | false=>rJ l k
def rK:List (Nat×Nat)→Nat→Option Nat
 | [],_=>none
 | (a,b)::l,k=>match Nat.beq b k with
  | true=>some a
  | false=>rK l k
def DU (l:List (Nat×Nat)):Id→Id
 | .ext j=>.ext j
 | .loc k=>match rJ l k with
  | some m=>.loc m
  | none=>.loc k
def Pg (l:List (Nat×Nat)):Id→Id
 | .ext j=>.ext j
 | .loc k=>match rK l k with
  | some m=>.loc m
  | none=>.loc k
def KA (l:List (Nat×Nat)) (n:Nat) (i:Id):Bool:=
 match Id.beq (Pg l (DU l i)) i with
 | true=>MK n (DU l i)
 | false=>false
def Yn (l:List (Nat×Nat)):List (Nat×AV)→List (Nat×AV)
 | []=>[]
 | (t,x)::r=>(t,x.A0 (DU l))::Yn l r
def O2 (l:List (Nat×Nat)):List (Id×AD)→List (Id×AD)
 | []=>[]
 | (i,x)::r=>(DU l i,x.A0 (DU l))::O2 l r
def TK (ks:List Nat) (is:List Id) (n:Nat) (l:List (Nat×Nat)) (σ:St) (K:St→Prop):Prop:=
 match Lk σ.heap is with
 | none=>False
 | some hp=>BJ (Bd (fun x:Nat×AV=>uJ (KA l n) x.2) (HS σ.slots ks))<| BJ (Bd (fun x:Id×AD=>match KA l n x.1 with | true=>Nb (KA l n) x.2 | false=>false) hp)<|
   K ⟨Yn l (HS σ.slots ks),O2 l hp,n⟩
theorem iZ {l:List (Nat×Nat)}{s:List (Nat×AV)}(t:Nat):AQ (Yn l s) t=(AQ s t).A0 (DU l):=by
 induction s with
 | nil=>rfl
 | cons x s ih=>
  obtain⟨k,v⟩:=x;show AQ ((k,v.A0 (DU l))::Yn l s) t=_;rw[Bf,Bf];grind
theorem TL {l:List (Nat×Nat)}{p:Id→Bool}{f:Id→Id}(hp:∀i,p i=true→f (DU l i)=i):∀{s:List (Id×AD)},(∀x∈s,p x.1=true)→∀{i:Id}{o:AD},AJ (O2 l s) i=some o→p (f i)=true∧DU l (f i)=i∧∃o',AJ s (f i)=some o'∧o=o'.A0 (DU l)
 | [],_,i,o,h=>by simp[O2,AJ]at h
 | (k,v)::s,hs,i,o,h=>by
  have hk:=hs (k,v) (by simp)
  rw[show O2 l ((k,v)::s)=(DU l k,v.A0 (DU l))::O2 l s from rfl,Cc]at h
  simp only[AK]at h
  by_cases e:i=DU l k
  ·rw[if_pos e]at h;simp at h;have hf:f i=k:=by rw[e];exact hp k hk
   rw[hf];exact⟨hk,e.symm,v,by rw[Cc];simp[AK],h.symm⟩
  ·rw[if_neg e]at h;obtain⟨h1,h2,o',h3,h4⟩:=TL hp (fun x hx=>hs x (List.mem_cons_of_mem _ hx)) h
   refine⟨h1,h2,o',?_,h4⟩;rw[Cc];simp only[AK];rw[if_neg]
   ·exact h3
   grind
theorem jA {q:Id×AD→Bool}{l:List (Id×AD)}(h:Bd q l=true) {i:Id}{o:AD}(hi:AJ l i=some o):q (i,o)=true:=by
 induction l with
 | nil=>simp[AJ]at hi
 | cons x l ih=>
  obtain⟨k,v⟩:=x;rw[BE]at h;rw[Cc]at hi;simp only[AK]at hi;split at hi
  ·simp_all
  ·exact ih (BE.2 fun x hx=>h x (by simp[hx])) hi
theorem JL {ks:List Nat}{is:List Id}{n:Nat}{l:List (Nat×Nat)}{σ:St}{K:St→Prop}(h:TK ks is n l σ K):∃σ',BP σ σ'∧K σ':=by
 unfold TK at h;split at h
 ·exact h.elim
 ·rename_i hp hhp;obtain⟨h1,h⟩:=AA.1 h;obtain⟨h2,h⟩:=AA.1 h
  let N:=max σ.next n
  let f:Id→Id:=fun i=>if MK n i=true then Pg l i else .loc N
  have hpf:∀i,KA l n i=true→f (DU l i)=i:=by
   intro i hi;unfold KA at hi;split at hi
   ·rename_i hb;show (if MK n (DU l i)=true then _ else _)=i
    rw[if_pos hi];exact Id.beq_iff.1 hb
   ·cases hi
  have hk2:∀x∈hp,KA l n x.1=true∧Nb (KA l n) x.2=true:=by
   intro x hx;have:=BE.1 h2 x hx;grind
  have hnew:∀i o,AJ (O2 l hp) i=some o→KA l n (f i)=true∧DU l (f i)=i∧∃o',AJ hp (f i)=some o'∧o=o'.A0 (DU l):=fun i o hi=>TL hpf (fun x hx=>(hk2 x hx).1) hi
  refine⟨_,iY f (fun j=>by rfl) (fun m hm=>⟨N,Nat.le_max_left _ _,?_⟩) (fun t=>?_) (fun i o hi=>?_) (fun i j o o' hi hj e=>?_) (fun m hm=>?_),h⟩
  ·have hm:n≤m:=hm
   have:MK n (.loc m)=false:=by
    cases hb:MK n (.loc m)with
    | false=>rfl
    | true=>simp[MK]at hb;omega
   grind
  ·rw[iZ];rcases PW (l:=σ.slots) (ks:=ks) t with e | e
   ·rw[e];exact .inl rfl
   ·right;rw[←e];exact (VX hpf (S0 (p:=uJ (KA l n)) rfl h1 t)).symm
  ·obtain⟨p1,p2,o',p3,rfl⟩:=hnew i o hi;have hq:=jA (q:=fun x=>Nb (KA l n) x.2) (BE.2 fun x hx=>(hk2 x hx).2) p3
   rw[Mb hpf hq];exact (Ia hhp _ _ p3).1
  ·grind
  ·cases hc:AJ (O2 l hp) (.loc m)with
   | none=>rfl
   | some o=>
    obtain⟨p1,p2,_⟩:=hnew _ o hc;have hm:n≤m:=hm;unfold KA at p1;split at p1
    ·rw[p2]at p1;simp[MK]at p1;omega
    ·cases p1
end Go.AM
namespace Go.AM
open Go Go.RowKit
theorem Yo {M:Aw}{ex:St→(Ct→St→Prop)→Prop}{σ:St}{K:Ct→St→Prop}(gs:List Gh) (l:List (Nat×Nat)) (ks:List Nat) (is:List Id) (nx:Nat) {T:Type}(S:T→St) (I:T→Prop) (m:T→Nat) (t0:T)
  (hI:I t0) (h0:gh gs σ fun σ=>TK ks is nx l σ (·=S t0))
  (hr:∀t,I t→ex (S t) fun e σ2=>match e with
   | .normal=>∃n' σ3,n'<m t∧BP σ2 σ3∧∃t',I t'∧n'=m t'∧σ3=S t'
   | .exit id=>K (.exit id) σ2
   | .ret=>K .ret σ2):M.lock fun _=>XQ ex σ K∨∃n,MW M ex K n σ:=by
 refine (M.lock_iff _).2<| .inl ⟨fun n σ=>∃t,I t∧n=m t∧σ=S t,m t0,?_,?_⟩
 ·obtain⟨σ1,hw1,h1⟩:=B9 h0;obtain⟨σ',hw,e⟩:=JL h1;exact⟨σ',BP.trans hw1 hw,t0,hI,rfl,e⟩
 grind
theorem VY {T:Type}{m:T→Nat}{I:T→Prop}{S:T→St}{σ2:St}{k:Nat}(t':T) (gs:List Gh) (l:List (Nat×Nat)) (ks:List Nat) (is:List Id) (nx:Nat) (hI:I t') (hm:m t'<k)
  (hk:gh gs σ2 fun σ=>TK ks is nx l σ (·=S t')):∃n' σ3,n'<k∧BP σ2 σ3∧∃t',I t'∧n'=m t'∧σ3=S t':=by
 obtain⟨σ1,hw1,h1⟩:=B9 hk;obtain⟨σ',hw,e⟩:=JL h1;exact⟨m t',σ',hm,BP.trans hw1 hw,t',hI,rfl,e⟩
section
variable {w:World}{Z Z' X:Ak}{g g':AP}{h h':Heap}
end
end Go.AM
namespace Go.AM
open Go Go.RowKit
inductive Shape (ti:Types):TypeId→List D→Prop where
 | bool {t x} (b:Bool) (h:ti t=some x) (hd:x.desc= .bool):Shape ti t [.bool b]
 | int {t x k} (n:Int) (h:ti t=some x) (hd:x.desc= .int k) (hw:(Lit.int k n).wf=true):Shape ti t [.int k n]
 | str {t x} (s:ByteArray) (h:ti t=some x) (hd:x.desc= .string) (hs:s.size≤maxLen):Shape ti t [.str s]
 | slice {t x e y} (rows:List D) (h:ti t=some x) (hd:x.desc= .slice e) (he:ti e=some y) (hl:rows.length≤maxLen)
   (hf:∀r∈rows,r.fits (AR y.desc) y.size) (hr:∀r∈rows,Shape ti e r.cells):Shape ti t [.list (AR y.desc) y.size rows]
 | struct {t x fs} (ds:List D) (h:ti t=some x) (hd:x.desc= .struct fs) (hl:ds.length=x.size) (hg:∀c∈ds,c.isAgg=false)
   (hr:∀f∈fs.toList,∀y,ti f.type=some y→Shape ti f.type ((ds.drop f.offset).take y.size)):Shape ti t ds
def chain (ti:Types):Nat→List Field→Option Nat
 | off,[]=>some off
 | off,f::r=>if f.offset=off then match ti f.type with
   | some y=>chain ti (off+y.size) r
   | none=>none
  else none
theorem TM {ti:Types}:∀{fs:List Field}{off Oh:Nat},chain ti off fs=some Oh→off≤Oh∧∀f∈fs,off≤f.offset∧∃y,ti f.type=some y
 | [],off,Oh,h=>by simp[chain]at h;simp_all
 | f::fs,off,Oh,h=>by
  unfold chain at h;split at h
  ·rename_i ho;split at h
   ·rename_i y hy;obtain⟨h1,h2⟩:=TM h;grind
   ·simp at h
  ·simp at h
def Nc (ti:Types) (T:List TypeId):Bool:=
 T.all fun t=>match ti t with
  | some x=>match x.desc with
   | .bool | .int _ | .string=>x.size==1
   | .slice e=>T.contains e&&(x.size==1)&&(match ti e with
    | some y=>decide (0<y.size)&&(AR y.desc || y.size==1)
    | none=>false)
   | .struct fs=>(chain ti 0 fs.toList==some x.size)&&fs.toList.all fun f=>T.contains f.type
   | _=>false
  | none=>false
theorem Lr {Q:Nat→D→Prop}:∀n,(∀i,i<n→∃r,Q i r)→∃l:List D,l.length=n∧∀i r,l[i]?=some r→Q i r
 | 0,_=>⟨[],rfl,by simp⟩
 | n+1,h=>by
  obtain⟨l,h1,h2⟩:=Lr n (fun i hi=>h i (by omega))
  obtain⟨r,hr⟩:=h n (by omega)
  refine⟨l++[r],by simp[h1],fun i r' hi=>?_⟩
  grind
def TN (w:World) (Z:Ak) (ds:List D) (cs:List Value):Prop:=
 ds.length=cs.length∧(∀c∈ds,c.isAgg=false)∧∀(j:Nat) c u,ds[j]?=some c→cs[j]?=some u→AZ w Z c u
theorem GF {w:World}{Z:Ak}{c:D}{u:Value}(hc:c.isAgg=false) (h:AZ w Z c u):TN w Z [c] [u]:=
 ⟨rfl,by simpa using hc,fun j c' u' h1 h2=>by
  match j with
  | 0=>simp_all
  | j+1=>simp at h1⟩
theorem Ls {w:World}{Z:Ak}{ti:Types}{cs:List Value}:∀(fs:List Field) (off Oh:Nat),chain ti off fs=some Oh→Oh≤cs.length→
  (∀f∈fs,∀y,ti f.type=some y→∃ds,Shape ti f.type ds∧TN w Z ds ((cs.drop f.offset).take y.size))→
  ∃ds,TN w Z ds ((cs.drop off).take (Oh - off))∧∀f∈fs,∀y,ti f.type=some y→Shape ti f.type ((ds.drop (f.offset - off)).take y.size)
 | [],off,Oh,h,_,_=>by
  simp[chain]at h;subst h;exact⟨[],⟨by simp,by simp,by simp⟩,by simp⟩
 | f::fs,off,Oh,h,hl,hx=>by
  unfold chain at h;split at h
  ·rename_i ho;split at h
   ·rename_i y hy;obtain⟨hle,hoff⟩:=TM h;obtain⟨ds',⟨a1,a2,a3⟩,hs'⟩:=Ls fs _ Oh h hl (fun f' hf'=>hx f' (List.mem_cons_of_mem _ hf'))
    obtain⟨p,hp,b1,b2,b3⟩:=hx f (by simp) y hy
    rw[ho]at b1 b3;have hpl:p.length=y.size:=by rw[b1];simp;omega
    refine⟨p++ds',⟨?_,?_,?_⟩,fun f' hf' y' hy'=>?_⟩
    ·simp at a1 ⊢;omega
    ·grind
    ·grind
    ·rcases List.mem_cons.1 hf' with rfl | hf'
     ·rw[hy]at hy';obtain rfl:y=y':=by simpa using hy'
      rw[ho,Nat.sub_self,List.drop_zero,List.take_append_of_le_length (by omega),List.take_of_length_le (by omega)]
      exact hp
     ·have h1:=(hoff f' hf').1;have:=hs' f' hf' y' hy';rw[List.drop_append,List.drop_of_length_le (by omega),List.nil_append]
      grind
   ·simp at h
  ·simp at h
theorem JM {P:Program}{ti:Types}(hti:Ay P ti) {t:TypeId}{x:TI}(h:ti t=some x):P.cellsOf t=x.size:=by
 obtain⟨_,i,h1,h2,_⟩:=hti t x h;simp[Program.cellsOf,h1,h2]
theorem conv {H:Type}{enc:TypeId×Value→H}{P:Program}{ti:Types}(hti:Ay P ti) {T:List TypeId}(hT:Nc ti T=true) {w:World}{base:Nat}{spare:Nat→Bool}{held:Bool}{Z:Ak}(hZ:∀b o,¬Z b o):
  ∀(fuel:Nat) (t:TypeId) (cs:List Value) (d:DataW H) (ps:List MemPlace),t∈T→DataW.trod enc P w base spare held fuel t cs=some (d,ps)→∃ds,Shape ti t ds∧TN w Z ds cs
 | 0,t,cs,d,ps,_,h=>by simp[DataW.trod]at h
 | fuel+1,t,cs,d,ps,ht,h=>by
  have hp:=hT;unfold Nc at hp;have hp:=List.all_eq_true.1 hp t ht;split at hp
  ·rename_i x hx;have hu:=(hti t x hx).1;have hcs:=JM hti hx;split at hp
   ·rename_i hd;rw[hd]at hu;unfold DataW.trod at h;simp only[hu]at h;split at h<;>simp_all
    exact⟨_,.bool _ hx hd,GF rfl (.bool _)⟩
   ·rename_i k hd;rw[hd]at hu;unfold DataW.trod at h;simp only[hu]at h;split at h<;>simp_all
    obtain⟨⟨rfl,hw⟩,_⟩:=h;exact⟨_,.int _ hx hd hw,GF rfl (.int _ _)⟩
   ·rename_i hd;rw[hd]at hu;unfold DataW.trod at h;simp only[hu]at h;split at h<;>simp_all
    exact⟨_,.str _ hx hd h.1,GF rfl (.str _)⟩
   ·rename_i e hd;rw[hd]at hu;simp only[Bool.and_eq_true]at hp;obtain⟨⟨he,_⟩,hp⟩:=hp;have he:e∈T:=by simpa using he
    split at hp
    ·rename_i y hy;simp only[Bool.and_eq_true,decide_eq_true_eq]at hp;have hey:=JM hti hy;unfold DataW.trod at h;simp only[hu]at h;split at h<;>rename_i hq<;>try cases hq
     ·exact⟨_,.slice [] hx hd hy (by simp) (by simp) (by simp),GF rfl (Fv _ _)⟩
     ·rename_i a len cap;rw[hey]at h;split at h
      ·rename_i hg;obtain⟨elems,he1,_⟩:=Option.bind_eq_some_iff.1 h;have hel:elems.length=len:=by simpa using mapM_some_length he1
       have each:∀i,i<len→∃cs' ds,(w.cells? base (a.add (i*y.size)) y.size)=some cs'∧Shape ti e ds∧TN w Z ds cs':=by
        intro i hi;have h1:=mapM_some_get he1 i i (by simp[hi])
        rw[List.getElem?_eq_getElem (by omega:i<elems.length)]at h1
        obtain⟨cs',h2,h3⟩:=Option.bind_eq_some_iff.1 h1;obtain⟨ds,h4,h5⟩:=conv hti hT hZ fuel e cs' _ _ he h3
        grind
       have hspot:0<len→a.spot=none:=by
        intro hl;obtain⟨cs',_,h2,_⟩:=each 0 hl;obtain⟨_,h3,h4⟩:=World.cells?_some h2;have h5:=h4 0 hp.1;rw[List.getElem?_eq_getElem (by omega)]at h5
        simp only[Nat.zero_mul,Addr.add,if_true]at h5;unfold World.cell? at h5;split at h5
        ·simp_all
        ·cases h5
       obtain⟨rows,hrl,hrows⟩:=Lr (Q:=fun i r=>r.fits (AR y.desc) y.size∧Shape ti e r.cells∧∀(j:Nat) c,r.cells[j]?=some c→
         ∃u,w.cell? ⟨a.block,a.off+(i*y.size+j),none⟩=some u∧AZ w Z c u) len (fun i hi=>by
        obtain⟨cs',ds,h2,h3,h4⟩:=each i hi;obtain⟨_,h5,h6⟩:=World.cells?_some h2;have hdl:ds.length=y.size:=h4.1.trans h5
        obtain⟨r,hr1,hr2⟩:∃r:D,r.cells=ds∧r.isAgg=AR y.desc:=by
         cases hrw:AR y.desc with
         | true=>exact⟨.agg ds,rfl,rfl⟩
         | false=>
          rw[hrw]at hp;have:y.size=1:=by simpa using hp.2
          obtain⟨c,rfl⟩:=List.length_eq_one_iff.1 (hdl.trans this);have hc:=h4.2.1 c (by simp)
          exact⟨c,by cases c<;>first | rfl | simp[D.isAgg]at hc,hc⟩
        refine⟨r,⟨hr2,by rw[hr1,hdl],by rw[hr1];exact h4.2.1⟩,by rw[hr1];exact h3,fun j c hc=>?_⟩
        rw[hr1]at hc;have hj:j<y.size:=by grind
        have h7:=h6 j hj
        have ha:(a.add (i*y.size)).add j=⟨a.block,a.off+(i*y.size+j),none⟩:=by
         have:=hspot (by omega)
         obtain⟨ab,ao,asp⟩:=a;simp only at this;subst this;unfold Addr.add;split<;>split<;>simp_all<;>omega
        rw[ha,List.getElem?_eq_getElem (by omega:j<cs'.length)]at h7
        exact⟨_,h7,h4.2.2 j c _ hc (List.getElem?_eq_getElem (by omega:j<cs'.length))⟩)
       refine⟨_,.slice rows hx hd hy (by omega) (fun r hr=>?_) (fun r hr=>?_),GF rfl ?_⟩
       ·obtain⟨i,hi⟩:=List.mem_iff_getElem?.1 hr;exact (hrows i r hi).1
       ·obtain⟨i,hi⟩:=List.mem_iff_getElem?.1 hr;grind
       ·rw[←hrl];refine .list _ _ rows (some a) cap a.block a.off (fun i j=>(w.cell? ⟨a.block,a.off+(i*y.size+j),none⟩).getD undef) (by omega) hg.2.2 (fun r hr=>?_) (fun hne=>?_) (fun i r j c hr hc=>?_) (fun i r j c hr hc=>?_)
        ·obtain⟨i,hi⟩:=List.mem_iff_getElem?.1 hr;exact (hrows i r hi).1
        ·have:=hspot (by grind)
         obtain⟨ab,ao,asp⟩:=a;simp_all
        ·grind
        grind
      ·cases h
     ·cases h
    ·simp at hp
   ·rename_i fs hd;rw[hd]at hu;simp only[Bool.and_eq_true,beq_iff_eq]at hp;obtain⟨hch,hfs⟩:=hp;unfold DataW.trod at h;simp only[hu]at h;split at h<;>rename_i hq<;>try cases hq
    ·obtain⟨xs,hxs,_⟩:=Option.map_eq_some_iff.1 h
     obtain⟨ds,h1,h2⟩:=Ls (w:=w) (Z:=Z) (cs:=cs) fs.toList 0 x.size hch (by omega) (fun f hf y hy=>by
      obtain⟨i,hi⟩:=List.mem_iff_getElem?.1 hf;have h3:=mapM_some_get hxs i f hi;have hil:i<xs.length:=by rw[mapM_some_length hxs];grind
      rw[List.getElem?_eq_getElem hil,JM hti hy]at h3;have hfT:f.type∈T:=by grind
      exact conv hti hT hZ fuel f.type _ _ _ hfT h3)
     rw[List.drop_zero,Nat.sub_zero,List.take_of_length_le (by omega)]at h1
     exact⟨ds,.struct ds hx hd (by rw[h1.1];omega) h1.2.1 (fun f hf y hy=>by simp_all),h1⟩
    ·cases h
   ·simp at hp
  ·simp at hp
end Go.AM
namespace Go.AM
open Go
section
variable {ti:Types}{t e:TypeId}{x y:TI}{ds:List D}{fs:Array Field}{k:IntKind}
theorem Shape.qM (h:Shape ti t ds) (hx:ti t=some x) (hd:x.desc= .int k):∃n,ds=[.int k n]∧(Lit.int k n).wf=true:=by
 cases h<;>simp_all
theorem Shape.qN (h:Shape ti t ds) (hx:ti t=some x) (hd:x.desc= .string):∃s,ds=[.str s]∧s.size≤maxLen:=by
 cases h<;>simp_all
theorem Shape.ZW (h:Shape ti t ds) (hx:ti t=some x) (hd:x.desc= .slice e) (hy:ti e=some y):
  ∃rows,ds=[.list (AR y.desc) y.size rows]∧rows.length≤maxLen∧(∀r∈rows,r.fits (AR y.desc) y.size)∧∀r∈rows,Shape ti e r.cells:=by
 cases h with
 | slice rows h1 h2 h3 h4 h5 h6=>
  simp_all
 | _=>simp_all
theorem Shape.XE (h:Shape ti t ds) (hx:ti t=some x) (hd:x.desc= .struct fs):
  ds.length=x.size∧(∀c∈ds,c.isAgg=false)∧∀f∈fs.toList,∀y,ti f.type=some y→Shape ti f.type ((ds.drop f.offset).take y.size):=by
 cases h with
 | struct ds h1 h2 h3 h4 h5=>
  simp_all
 | _=>simp_all
end
def CT (ti:Types) (t:TypeId):TI:=
 match ti t with
 | some x=>x
 | none=>⟨.bool,0,0,.bool false,[]⟩
theorem Nd {a b:ByteArray}:(a.toList==b.toList)=true↔a=b:=by
 constructor
 ·intro h;have h:=beq_iff_eq.1 h;rw[ByteArray.toList_eq,ByteArray.toList_eq]at h;exact ByteArray.ext (Array.ext' h)
 ·rintro rfl;simp
end Go.AM
namespace Go.AM
open Go
section
variable {α γ:Type}
def AW (z:Int) (k:Int→Option γ):Option γ:=k z
section
variable {r:γ}
theorem Nf {z:Int}{k:Int→Option γ}(h:AW z k=some r):∃y,z=y∧k y=some r:=⟨z,rfl,h⟩
def AO (L:List D) (k:Int→Option γ):Option γ:=k L.length
variable {L:List D}
theorem HV (M:Aw) {k:Int→Option γ}(h:AO L k=some r):∃y,M.lenI L=y∧k y=some r:=⟨L.length,M.lenI_eq L,h⟩
def ZX (s:ByteArray) (k:Int→Option γ):Option γ:=k s.size
variable {s:ByteArray}
theorem oG (M:Aw) {k:Int→Option γ}(h:ZX s k=some r):∃y,M.szI s=y∧k y=some r:=⟨s.size,M.szI_eq s,h⟩
def Ae (L:List D) (i:Int) (k:D→Option γ):Option γ:=if 0≤i then (match L[i.toNat]? with | some x=>k x | none=>none)else none
theorem Ng {i:Int}{k:D→Option γ}(h:Ae L i k=some r):∃x,(0≤i∧L[i.toNat]?=some x)∧k x=some r:=by
 unfold Ae at h;grind
def Be (p:Prop) [Decidable p] (x:Option γ):Option γ:=if p then x else none
variable {p:Prop}
theorem Bv [Decidable p] {x:Option γ}(h:Be p x=some r):p∧x=some r:=by
 unfold Be at h;simp_all
theorem AAy [Decidable p] {x y r:Option γ}(hp:p) (h:(if p then x else y)=r):x=r:=by rwa [if_pos hp]at h
theorem AAz [Decidable p] {x y r:Option γ}(hp:¬p) (h:(if p then x else y)=r):y=r:=by rwa [if_neg hp]at h
def Bw (b:Nat) (L M:List D) (k:List D→Option γ):Option γ:=if L.length+M.length≤maxLen∧(L.length+M.length)*b≤140737488355328 then k (L++M)else none
variable {k:List D→Option γ}
theorem HW {b:Nat}{M:List D}(h:Bw b L M k=some r):∃out,(L.length+M.length≤maxLen∧(L.length+M.length)*b≤140737488355328)∧L++M=out∧k out=some r:=by
 unfold Bw at h;simp_all
def HX (L:List D) (l u:Int) (k:List D→Option γ):Option γ:=if 0≤l∧l≤u∧u≤(L.length:Int)then k ((L.take u.toNat).drop l.toNat)else none
variable {l u:Int}
theorem Nh (M:Aw) (h:HX L l u k=some r):∃out,(0≤l∧l≤u∧u≤M.lenI L)∧(L.take u.toNat).drop l.toNat=out∧k out=some r:=by
 unfold HX at h;split at h
 ·rename_i hb;exact⟨_,by rw[M.lenI_eq];exact hb,rfl,h⟩
 ·cases h
def jB (L:List D) (l:Int) (k:List D→Option γ):Option γ:=if 0≤l∧l≤(L.length:Int)then k (L.drop l.toNat)else none
theorem Yp (M:Aw) (h:jB L l k=some r):∃out,(0≤l∧l≤M.lenI L∧M.lenI L≤M.lenI L)∧(L.take (M.lenI L).toNat).drop l.toNat=out∧k out=some r:=by
 unfold jB at h;split at h
 ·rename_i hb;exact⟨_,by rw[M.lenI_eq];simp_all,rfl,by rw[M.lenI_eq];simpa using h⟩
 ·cases h
def Mc (L:List D) (l u v:Int) (k:List D→Option γ):Option γ:=if 0≤l∧l≤u∧u≤(L.length:Int)∧v=u then k ((L.take u.toNat).drop l.toNat)else none
theorem Lu (M:Aw) {v:Int}(h:Mc L l u v k=some r):∃out,(0≤l∧l≤u∧u≤M.lenI L∧v=u)∧(L.take u.toNat).drop l.toNat=out∧k out=some r:=by
 unfold Mc at h;split at h
 ·rename_i hb;exact⟨_,by rw[M.lenI_eq];exact hb,rfl,h⟩
 ·cases h
open Classical in
noncomputable def Yq (L:List D) (A B:Option γ):Option γ:=if L=[]then (if A=B then B else none)else B
theorem jC {A B:Option γ}(h:Yq L A B=some r):B=some r∧(L=[]→A=some r):=by
 unfold Yq at h;grind
theorem oH {A B:Option γ}(h:L=[]→A=B):Yq L A B=B:=by
 unfold Yq;simp_all
def Lv (b:Nat) (z:D) (n m:Int) (k:List D→Option γ):Option γ:=if n=m∧0≤n∧n≤9223372036854775807∧(b:Int)*n≤281474976710656 then k (List.replicate n.toNat z)else none
theorem Yr {b:Nat}{z:D}{n m:Int}(h:Lv b z n m k=some r):∃out,(n=m∧0≤n∧n≤9223372036854775807∧(b:Int)*n≤281474976710656)∧List.replicate n.toNat z=out∧k out=some r:=by
 unfold Lv at h;grind
def Gf (L:List D) (k:List D→Option γ):Option γ:=k L
def HY (L:List D):Bool:=L.all fun r=>r.cells.all fun c=>!EF c
theorem Ky:HY L=true↔M8 L:=by
 simp[HY,M8]
def O3 (L:List D) (i:Nat) (x:D) (k:List D→Option γ):Option γ:=k (L.set i x)
theorem TO {i:Nat}{x:D}(h:O3 L i x k=some r):∃out,L.set i x=out∧k out=some r:=⟨_,rfl,h⟩
def DV (L:List D) (i:Nat) (k:D→Option γ):Option γ:=match L[i]? with | some x=>k x | none=>none
theorem E7 {i:Nat}{k:D→Option γ}(h:DV L i k=some r):∃x,L[i]?=some x∧k x=some r:=by
 unfold DV at h;grind
def oI (s:ByteArray) (l u:Int) (k:ByteArray→Option γ):Option γ:=if 0≤l∧l≤u∧u≤(s.size:Int)then k (s.extract l.toNat u.toNat)else none
theorem TP (M:Aw) {k:ByteArray→Option γ}(h:oI s l u k=some r):∃out,(0≤l∧l≤u∧u≤M.szI s)∧s.extract l.toNat u.toNat=out∧k out=some r:=by
 unfold oI at h;split at h
 ·rename_i hb;exact⟨_,by rw[M.szI_eq];exact hb,rfl,h⟩
 ·cases h
def VZ (s:ByteArray) (l:Int) (k:ByteArray→Option γ):Option γ:=if 0≤l∧l≤(s.size:Int)then k (s.extract l.toNat s.size)else none
theorem Va (M:Aw) {k:ByteArray→Option γ}(h:VZ s l k=some r):∃out,(0≤l∧l≤M.szI s∧M.szI s≤M.szI s)∧s.extract l.toNat (M.szI s).toNat=out∧k out=some r:=by
 unfold VZ at h;split at h
 ·rename_i hb;exact⟨_,by rw[M.szI_eq];simp_all,rfl,by rw[M.szI_eq];simpa using h⟩
 ·cases h
def rL (s:ByteArray) (i:Int) (k:Int→Option γ):Option γ:=if 0≤i then (match (s[i.toNat]?).map (fun u=>(u.toNat:Int))with | some z=>k z | none=>none)else none
theorem oJ {i:Int}{k:Int→Option γ}(h:rL s i k=some r):∃z,(0≤i∧(s[i.toNat]?).map (fun u=>(u.toNat:Int))=some z)∧k z=some r:=by
 unfold rL at h;grind
def uK (x:Option Unit) (k:Option γ):Option γ:=match x with | some _=>k | none=>none
def Au {A1:Type}(x:Option (A1)) (k:A1→Option γ):Option γ:=match x with | some p=>k p | none=>none
variable {A1:Type}
theorem oL {x:Option (A1)}{k:A1→Option γ}(h:Au x k=some r):∃a1,x=some a1∧k a1=some r:=by
 cases x with
 | none=>cases h
 | some p=>exact⟨_,rfl,h⟩
def Im {A1 A2:Type}(x:Option (A1×A2)) (k:A1→A2→Option γ):Option γ:=match x with | some p=>k p.1 p.2 | none=>none
def Dq {A1 A2 A3:Type}(x:Option (A1×A2×A3)) (k:A1→A2→A3→Option γ):Option γ:=match x with | some p=>k p.1 p.2.1 p.2.2 | none=>none
def jD {A1 A2 A3 A4:Type}(x:Option (A1×A2×A3×A4)) (k:A1→A2→A3→A4→Option γ):Option γ:=match x with | some p=>k p.1 p.2.1 p.2.2.1 p.2.2.2 | none=>none
def ZY {A1 A2 A3 A4 A5:Type}(x:Option (A1×A2×A3×A4×A5)) (k:A1→A2→A3→A4→A5→Option γ):Option γ:=match x with | some p=>k p.1 p.2.1 p.2.2.1 p.2.2.2.1 p.2.2.2.2 | none=>none
def Lw {A1 A2 A3 A4 A5 A6:Type}(x:Option (A1×A2×A3×A4×A5×A6)) (k:A1→A2→A3→A4→A5→A6→Option γ):Option γ:=match x with | some p=>k p.1 p.2.1 p.2.2.1 p.2.2.2.1 p.2.2.2.2.1 p.2.2.2.2.2 | none=>none
def jE {A1 A2 A3 A4 A5 A6 A7:Type}(x:Option (A1×A2×A3×A4×A5×A6×A7)) (k:A1→A2→A3→A4→A5→A6→A7→Option γ):Option γ:=match x with | some p=>k p.1 p.2.1 p.2.2.1 p.2.2.2.1 p.2.2.2.2.1 p.2.2.2.2.2.1 p.2.2.2.2.2.2 | none=>none
def XX {A1 A2 A3 A4 A5 A6 A7 A8:Type}(x:Option (A1×A2×A3×A4×A5×A6×A7×A8)) (k:A1→A2→A3→A4→A5→A6→A7→A8→Option γ):Option γ:=match x with | some p=>k p.1 p.2.1 p.2.2.1 p.2.2.2.1 p.2.2.2.2.1 p.2.2.2.2.2.1 p.2.2.2.2.2.2.1 p.2.2.2.2.2.2.2 | none=>none
def jF {A1 A2 A3 A4 A5 A6 A7 A8 A9:Type}(x:Option (A1×A2×A3×A4×A5×A6×A7×A8×A9)) (k:A1→A2→A3→A4→A5→A6→A7→A8→A9→Option γ):Option γ:=match x with | some p=>k p.1 p.2.1 p.2.2.1 p.2.2.2.1 p.2.2.2.2.1 p.2.2.2.2.2.1 p.2.2.2.2.2.2.1 p.2.2.2.2.2.2.2.1 p.2.2.2.2.2.2.2.2 | none=>none
def BO {A1 A2 A3 A4 A5 A6 A7 A8 A9 A10:Type}(x:Option (A1×A2×A3×A4×A5×A6×A7×A8×A9×A10)) (k:A1→A2→A3→A4→A5→A6→A7→A8→A9→A10→Option γ):Option γ:=match x with | some p=>k p.1 p.2.1 p.2.2.1 p.2.2.2.1 p.2.2.2.2.1 p.2.2.2.2.2.1 p.2.2.2.2.2.2.1 p.2.2.2.2.2.2.2.1 p.2.2.2.2.2.2.2.2.1 p.2.2.2.2.2.2.2.2.2 | none=>none
variable {A2 A3 A4 A5 A6 A7 A8 A9 A10:Type}
theorem TQ {x:Option (A1×A2×A3×A4×A5×A6×A7×A8×A9×A10)}{k:A1→A2→A3→A4→A5→A6→A7→A8→A9→A10→Option γ}(h:BO x k=some r):∃a1 a2 a3 a4 a5 a6 a7 a8 a9 a10,x=some (a1,a2,a3,a4,a5,a6,a7,a8,a9,a10)∧k a1 a2 a3 a4 a5 a6 a7 a8 a9 a10=some r:=by
 cases x with
 | none=>cases h
 | some p=>exact⟨_,_,_,_,_,_,_,_,_,_,rfl,h⟩
theorem XY {a1 b1:A1}{a2 b2:A2}{a3 b3:A3}{a4 b4:A4}{a5 b5:A5}{a6 b6:A6}{a7 b7:A7}{a8 b8:A8}{a9 b9:A9}{a10 b10:A10}(h:some (a1,a2,a3,a4,a5,a6,a7,a8,a9,a10)=some (b1,b2,b3,b4,b5,b6,b7,b8,b9,b10)):a1=b1∧a2=b2∧a3=b3∧a4=b4∧a5=b5∧a6=b6∧a7=b7∧a8=b8∧a9=b9∧a10=b10:=by
 simp_all
def BW {A1 A2 A3 A4 A5 A6 A7 A8 A9 A10 A11:Type}(x:Option (A1×A2×A3×A4×A5×A6×A7×A8×A9×A10×A11)) (k:A1→A2→A3→A4→A5→A6→A7→A8→A9→A10→A11→Option γ):Option γ:=match x with | some p=>k p.1 p.2.1 p.2.2.1 p.2.2.2.1 p.2.2.2.2.1 p.2.2.2.2.2.1 p.2.2.2.2.2.2.1 p.2.2.2.2.2.2.2.1 p.2.2.2.2.2.2.2.2.1 p.2.2.2.2.2.2.2.2.2.1 p.2.2.2.2.2.2.2.2.2.2 | none=>none
theorem TR {A11:Type}{x:Option (A1×A2×A3×A4×A5×A6×A7×A8×A9×A10×A11)}{k:A1→A2→A3→A4→A5→A6→A7→A8→A9→A10→A11→Option γ}(h:BW x k=some r):∃a1 a2 a3 a4 a5 a6 a7 a8 a9 a10 a11,x=some (a1,a2,a3,a4,a5,a6,a7,a8,a9,a10,a11)∧k a1 a2 a3 a4 a5 a6 a7 a8 a9 a10 a11=some r:=by
 cases x with
 | none=>cases h
 | some p=>exact⟨_,_,_,_,_,_,_,_,_,_,_,rfl,h⟩
def K2 {A1 A2 A3 A4 A5 A6 A7 A8 A9 A10 A11 A12 A13:Type}(x:Option (A1×A2×A3×A4×A5×A6×A7×A8×A9×A10×A11×A12×A13)) (k:A1→A2→A3→A4→A5→A6→A7→A8→A9→A10→A11→A12→A13→Option γ):Option γ:=match x with | some p=>k p.1 p.2.1 p.2.2.1 p.2.2.2.1 p.2.2.2.2.1 p.2.2.2.2.2.1 p.2.2.2.2.2.2.1 p.2.2.2.2.2.2.2.1 p.2.2.2.2.2.2.2.2.1 p.2.2.2.2.2.2.2.2.2.1 p.2.2.2.2.2.2.2.2.2.2.1 p.2.2.2.2.2.2.2.2.2.2.2.1 p.2.2.2.2.2.2.2.2.2.2.2.2 | none=>none
def Vd {A1 A2 A3 A4 A5 A6 A7 A8 A9 A10 A11 A12 A13 A14 A15 A16 A17:Type}(x:Option (A1×A2×A3×A4×A5×A6×A7×A8×A9×A10×A11×A12×A13×A14×A15×A16×A17)) (k:A1→A2→A3→A4→A5→A6→A7→A8→A9→A10→A11→A12→A13→A14→A15→A16→A17→Option γ):Option γ:=match x with | some p=>k p.1 p.2.1 p.2.2.1 p.2.2.2.1 p.2.2.2.2.1 p.2.2.2.2.2.1 p.2.2.2.2.2.2.1 p.2.2.2.2.2.2.2.1 p.2.2.2.2.2.2.2.2.1 p.2.2.2.2.2.2.2.2.2.1 p.2.2.2.2.2.2.2.2.2.2.1 p.2.2.2.2.2.2.2.2.2.2.2.1 p.2.2.2.2.2.2.2.2.2.2.2.2.1 p.2.2.2.2.2.2.2.2.2.2.2.2.2.1 p.2.2.2.2.2.2.2.2.2.2.2.2.2.2.1 p.2.2.2.2.2.2.2.2.2.2.2.2.2.2.2.1 p.2.2.2.2.2.2.2.2.2.2.2.2.2.2.2.2 | none=>none
def Qq {A1 A2 A3 A4 A5 A6 A7 A8 A9 A10 A11 A12 A13 A14 A15 A16 A17 A18:Type}(x:Option (A1×A2×A3×A4×A5×A6×A7×A8×A9×A10×A11×A12×A13×A14×A15×A16×A17×A18)) (k:A1→A2→A3→A4→A5→A6→A7→A8→A9→A10→A11→A12→A13→A14→A15→A16→A17→A18→Option γ):Option γ:=match x with | some p=>k p.1 p.2.1 p.2.2.1 p.2.2.2.1 p.2.2.2.2.1 p.2.2.2.2.2.1 p.2.2.2.2.2.2.1 p.2.2.2.2.2.2.2.1 p.2.2.2.2.2.2.2.2.1 p.2.2.2.2.2.2.2.2.2.1 p.2.2.2.2.2.2.2.2.2.2.1 p.2.2.2.2.2.2.2.2.2.2.2.1 p.2.2.2.2.2.2.2.2.2.2.2.2.1 p.2.2.2.2.2.2.2.2.2.2.2.2.2.1 p.2.2.2.2.2.2.2.2.2.2.2.2.2.2.1 p.2.2.2.2.2.2.2.2.2.2.2.2.2.2.2.1 p.2.2.2.2.2.2.2.2.2.2.2.2.2.2.2.2.1 p.2.2.2.2.2.2.2.2.2.2.2.2.2.2.2.2.2 | none=>none
def TS {A1 A2 A3 A4 A5 A6 A7 A8 A9 A10 A11 A12 A13 A14 A15 A16 A17 A18 A19 A20:Type}(x:Option (A1×A2×A3×A4×A5×A6×A7×A8×A9×A10×A11×A12×A13×A14×A15×A16×A17×A18×A19×A20)) (k:A1→A2→A3→A4→A5→A6→A7→A8→A9→A10→A11→A12→A13→A14→A15→A16→A17→A18→A19→A20→Option γ):Option γ:=match x with | some p=>k p.1 p.2.1 p.2.2.1 p.2.2.2.1 p.2.2.2.2.1 p.2.2.2.2.2.1 p.2.2.2.2.2.2.1 p.2.2.2.2.2.2.2.1 p.2.2.2.2.2.2.2.2.1 p.2.2.2.2.2.2.2.2.2.1 p.2.2.2.2.2.2.2.2.2.2.1 p.2.2.2.2.2.2.2.2.2.2.2.1 p.2.2.2.2.2.2.2.2.2.2.2.2.1 p.2.2.2.2.2.2.2.2.2.2.2.2.2.1 p.2.2.2.2.2.2.2.2.2.2.2.2.2.2.1 p.2.2.2.2.2.2.2.2.2.2.2.2.2.2.2.1 p.2.2.2.2.2.2.2.2.2.2.2.2.2.2.2.2.1 p.2.2.2.2.2.2.2.2.2.2.2.2.2.2.2.2.2.1 p.2.2.2.2.2.2.2.2.2.2.2.2.2.2.2.2.2.2.1 p.2.2.2.2.2.2.2.2.2.2.2.2.2.2.2.2.2.2.2 | none=>none
def Ys {A1 A2 A3 A4 A5 A6 A7 A8 A9 A10 A11 A12 A13 A14 A15 A16 A17 A18 A19 A20 A21 A22:Type}(x:Option (A1×A2×A3×A4×A5×A6×A7×A8×A9×A10×A11×A12×A13×A14×A15×A16×A17×A18×A19×A20×A21×A22)) (k:A1→A2→A3→A4→A5→A6→A7→A8→A9→A10→A11→A12→A13→A14→A15→A16→A17→A18→A19→A20→A21→A22→Option γ):Option γ:=match x with | some p=>k p.1 p.2.1 p.2.2.1 p.2.2.2.1 p.2.2.2.2.1 p.2.2.2.2.2.1 p.2.2.2.2.2.2.1 p.2.2.2.2.2.2.2.1 p.2.2.2.2.2.2.2.2.1 p.2.2.2.2.2.2.2.2.2.1 p.2.2.2.2.2.2.2.2.2.2.1 p.2.2.2.2.2.2.2.2.2.2.2.1 p.2.2.2.2.2.2.2.2.2.2.2.2.1 p.2.2.2.2.2.2.2.2.2.2.2.2.2.1 p.2.2.2.2.2.2.2.2.2.2.2.2.2.2.1 p.2.2.2.2.2.2.2.2.2.2.2.2.2.2.2.1 p.2.2.2.2.2.2.2.2.2.2.2.2.2.2.2.2.1 p.2.2.2.2.2.2.2.2.2.2.2.2.2.2.2.2.2.1 p.2.2.2.2.2.2.2.2.2.2.2.2.2.2.2.2.2.2.1 p.2.2.2.2.2.2.2.2.2.2.2.2.2.2.2.2.2.2.2.1 p.2.2.2.2.2.2.2.2.2.2.2.2.2.2.2.2.2.2.2.2.1 p.2.2.2.2.2.2.2.2.2.2.2.2.2.2.2.2.2.2.2.2.2 | none=>none
end
end
end Go.AM
namespace Go.AM
open Go
def sI (n:Nat) (z:Int):Nat×AV:=(n,.v (.d (.int .i64 z)))
def sU (n:Nat) (z:Int):Nat×AV:=(n,.v (.d (.int .u8 z)))
def sB (n:Nat) (b:Bool):Nat×AV:=(n,.v (.d (.bool b)))
def sT (n s:Nat) (l:List D):Nat×AV:=(n,.v (.d (.list true s l)))
def sF (n s:Nat) (l:List D):Nat×AV:=(n,.v (.d (.list false s l)))
def sL (n i:Nat):Nat×AV:=(n,.v (.c (.ptr (.loc i) 0)))
def sE (n i:Nat):Nat×AV:=(n,.v (.c (.ptr (.ext i) 0)))
def sS (n:Nat) (b:ByteArray):Nat×AV:=(n,.v (.d (.str b)))
abbrev LD:=List D
abbrev BA:=ByteArray
theorem itT {γ:Type}{x y r:Option γ}(h:(if true=true then x else y)=r):x=r:=h
theorem itF {γ:Type}{x y r:Option γ}(h:(if false=true then x else y)=r):y=r:=h
end Go.AM
namespace Go.AM
open Go Go.RowKit
theorem C0.SG {P:Program}{I:Inv}{f:FuncId}{xs:List D}{res:V1}(hf:∃fn c,P.funcs[f]?=some fn∧fn.body=some c∧(fn.name== "runtime.NumGoroutine")=false)
  (h:∀(w:World) (Z:Ak) (vals:Array Value),I.rel w→vals.size=xs.length→(∀(j:Nat) x v,xs[j]?=some x→vals[j]?=some v→AZ w Z x v)→
   Calls P f vals w fun e w'=>∃v,e= .returned v∧Dc (fun _=>False) w w'∧∀Z' g' h',Ah w' Z' g' h' res v):C0 P I f (xs.map V1.d) [] (.v res) [] []:=by
 refine C0.mk' hf fun w X g vals hX hI RH hg hsz hargs=>?_
 have none:∀{i o},Ad [] i=some o→False:=by
  intro i o h;cases i<;>simp[Ad]at h
 have none2:∀{i o},BQ [] [] i=some o→False:=by
  intro i o h;cases i<;>simp[BQ]at h
 refine (h w (Av (zone g (Ad [])) X) vals hI.1 (by simpa using hsz) (fun j x v hx hv=>hargs j (.d x) v (by simp[hx]) hv)).mono ?_
 rintro e w' ⟨v,rfl,A,hr⟩
 refine⟨v,g,rfl,⟨⟨fun i o hi=>(none2 hi).elim,fun i j oi oj b hi=>(none2 hi).elim,fun i oi b o hi=>(none2 hi).elim⟩,hr _ _ _,?_,fun j=>.refl _,fun i ob b o hi=>(none2 hi).elim,fun k _=>hg k⟩⟩
 exact⟨A.os,A.tape,A.output,A.size,fun b hb _=>A.block b hb id,fun b o u hu _=>A.cell hu id⟩
theorem C0.mP {P:Program}{I:Inv}{f:FuncId}{xs:List D}{res:AV}(hf:∃fn c,P.funcs[f]?=some fn∧fn.body=some c∧(fn.name== "runtime.NumGoroutine")=false)
  (h:∀(w:World) (Z:Ak) (vals:Array Value),I.rel w→vals.size=xs.length→(∀(j:Nat) x v,xs[j]?=some x→vals[j]?=some v→AZ w Z x v)→
   Calls P f vals w fun e w'=>∃v,e= .returned v∧Dc (fun _=>False) w w'∧∀Z' g' h',(∀b o,Z' b o→b<w.heap.size)→An w' Z' g' h' res v):C0 P I f (xs.map V1.d) [] res [] []:=by
 refine C0.mk' hf fun w X g vals hX hI RH hg hsz hargs=>?_
 have none:∀{i o},Ad [] i=some o→False:=by
  intro i o h;cases i<;>simp[Ad]at h
 have none2:∀{i o},BQ [] [] i=some o→False:=by
  intro i o h;cases i<;>simp[BQ]at h
 refine (h w (Av (zone g (Ad [])) X) vals hI.1 (by simpa using hsz) (fun j x v hx hv=>hargs j (.d x) v (by simp[hx]) hv)).mono ?_
 rintro e w' ⟨v,rfl,A,hr⟩
 refine⟨v,g,rfl,⟨⟨fun i o hi=>(none2 hi).elim,fun i j oi oj b hi=>(none2 hi).elim,fun i oi b o hi=>(none2 hi).elim⟩,hr _ _ _ ?_,?_,fun j=>.refl _,fun i ob b o hi=>(none2 hi).elim,fun k _=>hg k⟩⟩
 ·rintro b o (⟨i,ob,hi,_⟩ | hx)
  ·exact (none2 hi).elim
  ·exact hX b o hx
 ·exact⟨A.os,A.tape,A.output,A.size,fun b hb _=>A.block b hb id,fun b o u hu _=>A.cell hu id⟩
def Ph:List D→Option (List ByteArray)
 | []=>some []
 | .str s::r=>match Ph r with
  | some l=>some (s::l)
  | none=>none
 | _::_=>none
theorem Pj:∀{rows:List D}{xs:List ByteArray},Ph rows=some xs→rows=xs.map D.str
 | [],xs,h=>by cases h;rfl
 | x::r,xs,h=>by
  cases x<;>simp only[Ph]at h<;>try (exact absurd h (by simp))
  split at h
  ·rename_i l hl;cases h
   rw[Pj hl];rfl
  ·cases h
theorem Ve {w w':World}(h:w'.os=w.os) (h1:w'.tape=w.tape) (h2:w'.output=w.output) (h3:w.heap.size≤w'.heap.size) (h4:∀b,b<w.heap.size→w'.heap[b]?=w.heap[b]?):Dc (fun _=>False) w w':=
 ⟨h,h1,h2,h3,fun b hb _=>h4 b hb⟩
theorem HZ {w w':World}(h:Below w.heap.size w w'):Dc (fun _=>False) w w':=⟨h.os,h.tape,h.output,h.size,fun b hb _=>h.block b hb⟩
end Go.AM
namespace Go.AM
open Go Go.RowKit
section
variable {α β γ:Type}
def bS (x:Option (α ⊕ β)) (k1:α→Option γ) (k2:β→Option γ):Option γ:=
 match x with
 | some (.inl a)=>k1 a
 | some (.inr b)=>k2 b
 | none=>none
end
section
variable {γ:Type}
def Ax (b:Bool) (k:Bool→Option γ):Option γ:=k b
def findF (e:Bool) (key:D) (rows:List D) (k1:D→Option γ) (k0:Option γ):Option γ:=
 match DS e key rows with
 | some (some y)=>k1 y
 | some none=>k0
 | none=>none
theorem Pk {e:Bool}{key:D}{rows:List D}{k1:D→Option γ}{k0:Option γ}{r:γ}(h:findF e key rows k1 k0=some r):(∃y,DS e key rows=some (some y)∧k1 y=some r)∨(DS e key rows=some none∧k0=some r):=by
 unfold findF at h;grind
def B5 (key:D) (ws rows:List D) (k:List D→Option γ):Option γ:=
 match G9 key ws rows with
 | some r=>k r
 | none=>none
theorem jG {key:D}{ws rows:List D}{k:List D→Option γ}{r:γ}(h:B5 key ws rows k=some r):∃out,G9 key ws rows=some out∧k out=some r:=by
 unfold B5 at h;grind
end
def cL:Code→Code
 | .seq a _=>a
 | .cond _ a _=>a
 | .block _ b=>b
 | .loop b=>b
 | .rangeFunc _ _ a _=>a
 | c=>c
def cR:Code→Code
 | .seq _ b=>b
 | .cond _ _ b=>b
 | .rangeFunc _ _ _ b=>b
 | c=>c
def cP:Code→Array Tmp
 | .rangeFunc _ p _ _=>p
 | _=>#[]
def Vf (fn:Func):Code:=
 match fn.body with
 | some c=>c
 | none=>.skip
def uL (s:AL):List (Nat×AV)→Prop
 | []=>True
 | (t,v)::r=>s t=v∧uL s r
theorem TT {s:AL}:∀{sl:List (Nat×AV)},uL s sl→∀t,AQ sl t= .u∨AQ sl t=s t
 | [],_,_=>.inl rfl
 | (k,v)::r,h,t=>by
  show (match Nat.beq k t with | true=>v | false=>AQ r t)= .u∨(match Nat.beq k t with | true=>v | false=>AQ r t)=s t
  cases e:Nat.beq k t with
  | true=>exact .inr (by rw[←Nat.eq_of_beq_eq_true e];exact h.1.symm)
  | false=>exact TT h.2 t
section
variable {ea eb:St→(Ct→St→Prop)→Prop}{K:Ct→St→Prop}
theorem K4 {M:Aw}{σ:St}(h:ea σ fun e σ'=>match e with
  | .normal=>eb σ' K
  | .exit id=>K (.exit id) σ'
  | .ret=>K .ret σ'):M.lock fun _=>nU ea eb σ K:=(M.lock_iff _).2 (.inl h)
theorem jH {M:Aw}{σ:St}{T:Type}(S:T→St) (I:T→Prop)
  (ha:ea σ fun e σ'=>match e with
   | .normal=>∃σ'',BP σ' σ''∧∃t,I t∧σ''=S t
   | .exit id=>K (.exit id) σ'
   | .ret=>K .ret σ') (hb:∀t,I t→eb (S t) K):M.lock fun _=>nU ea eb σ K:=by
 refine (M.lock_iff _).2 (.inr ⟨fun σ=>∃t,I t∧σ=S t,ha,?_⟩)
 simp_all
theorem Pm {T:Type}{I:T→Prop}{S:T→St}{σ2:St}(t':T) (ks:List Nat) (is:List Id) (nx:Nat) (hI:I t') (hk:VP ks is nx σ2 (·=S t')):
  ∃σ'',BP σ2 σ''∧∃t,I t∧σ''=S t:=by
 obtain⟨σ',hw,e⟩:=Yg hk;grind
end
section
variable {M:Aw}{P:Program}{I:Inv}
section
variable {ti:Types}{sl:List (Nat×AV)}{pre:List AD}
theorem Fc.of' (hti:Ay P ti) (h1:BH ti) (hm:P.follows .mixedOrders=true) {r:RF}{args:List V1}{Q:Jump→List AD→List AD→Prop}{nt:Nat}{ps:List Tmp}{ca cb:Code}
  (hnt:r.nt=nt) (hpl:r.params.toList=ps) (ha:r.assign=ca) (hb:r.body=cb) (hlen:args.length=ps.length) (hps:Bd (fun p=>Nat.blt p nt) ps=true)
  (hx:∀M:Aw,M.P=P→M.I=I→exec M ti nt (BK ti M nt) ca ⟨TG ps args sl,Bq pre 0,0⟩ fun e σ=>match e with
   | .normal=>exec M ti nt (BK ti M nt) cb σ fun e σ=>∃post new,Q (Eb e) post new∧uI σ post new
   | _=>False):Fc P I r sl args pre Q:=by
 subst hnt;subst hpl;subst ha;subst hb;exact Fc.intro (fun M nt=>BK ti M nt) hti h1 (Qn hti h1 hm) (by simpa using hlen) hps hx
variable {targs:List V1}{post new:List AD}
theorem oM {A X:Prop}{o:Oper}{c:Call}{f:Operand}{fresh:Nat}{σ:St}{K:St→Prop}{i:Id}{r:Unit→RF}{sl0:List (Nat×AV)}{xs:List V1}{j:Jump}
  (hP:M.P=P) (hI:M.I=I) (m:List Id) (ho:o.op= .call c) (hc:c.callee= .value f) (hf:AX ti (AQ σ.slots) 0 f= .v (.c (.yl i))) (hr:AJ σ.heap i=some (.rnd r sl))
  (hR:Fc P I (r ()) sl0 targs pre fun j' p n=>j'=j∧p=post∧n=new) (hxs:G5 (Bn ti (AQ σ.slots) c.args.toList c.argTypes.toList)=some xs)
  (he:xs=targs.map (V1.A0 (BG (m++[i]) fresh))) (hsl:sl=qT (BG (m++[i]) fresh) sl0) (hm:(m++[i]).Nodup) (hpre:TJ (AJ σ.heap) (BG (m++[i]) fresh) m pre) (hkd:Bi pre post) (hn:new.length≤31)
  (hk:K ⟨Cr σ.slots o.dst (.v (.d (.bool j.isNone))),Cg σ.heap (MQ (m++[i]) (BG (m++[i]) fresh) (post++[Dx j r sl0])++Cl fresh (BG (m++[i]) fresh) 0 new),fresh⟩):
  M.lock fun _=>A∨(PV M ti o fresh σ K∨X):=by
 refine oD (.inl ?_);unfold PV;rw[ho];simp only[];rw[hc];simp only[];refine⟨⟨σ.slots,σ.heap,fresh⟩,BP.refl _,rfl,?_⟩;simp only[hf];unfold withArgs;rw[hxs];simp only[hr];refine⟨m,targs,pre,sl0,_,hP▸hI▸hR,he,hsl,(Dz hpre).1,hm,(Dz hpre).2,?_⟩;simp_all
theorem Vg {nt:Nat}{g:Operand}{ps:Array Tmp}{assign body:Code}{σ:St}{K:Ct→St→Prop}{n:FuncId}{cap:List Id}{res:AV}
  (hP:M.P=P) (hI:M.I=I) (m:List Id) (sl:List (Nat×AV)) (hg:AX ti (AQ σ.slots) 0 g= .v (.c (.fn n cap))) (hsl:uL (AQ σ.slots) sl)
  (ht:C0 P I n targs pre res post new) (he:(V1.c (.yl (.loc σ.next))::cap.map fun i=>V1.c (.ptr i 0))=targs.map (V1.A0 (BG m (σ.next+32)))) (hm:m.Nodup)
  (hpre:TJ (AJ (Cq σ.heap (.loc σ.next) (.rnd (fun _=>⟨ps,assign,body,nt⟩) sl))) (BG m (σ.next+32)) m pre) (hkd:Bi pre post) (hn:new.length≤31)
  (hk:match AJ (Cg (Cq σ.heap (.loc σ.next) (.rnd (fun _=>⟨ps,assign,body,nt⟩) sl)) (MQ m (BG m (σ.next+32)) post++Cl (σ.next+32) (BG m (σ.next+32)) 0 new)) (.loc σ.next)with
   | some (.rnd _ _)=>K .normal ⟨σ.slots,Cq (Cg (Cq σ.heap (.loc σ.next) (.rnd (fun _=>⟨ps,assign,body,nt⟩) sl)) (MQ m (BG m (σ.next+32)) post++Cl (σ.next+32) (BG m (σ.next+32)) 0 new)) (.loc σ.next) .gone,σ.next+64⟩
   | some (.rndX j)=>(match j with
    | none=>K .ret ⟨σ.slots,Cq (Cg (Cq σ.heap (.loc σ.next) (.rnd (fun _=>⟨ps,assign,body,nt⟩) sl)) (MQ m (BG m (σ.next+32)) post++Cl (σ.next+32) (BG m (σ.next+32)) 0 new)) (.loc σ.next) .gone,σ.next+64⟩
    | some id=>K (.exit id) ⟨σ.slots,Cq (Cg (Cq σ.heap (.loc σ.next) (.rnd (fun _=>⟨ps,assign,body,nt⟩) sl)) (MQ m (BG m (σ.next+32)) post++Cl (σ.next+32) (BG m (σ.next+32)) 0 new)) (.loc σ.next) .gone,σ.next+64⟩)
   | _=>False):
  M.lock fun _=>VN M ti nt g ps assign body σ K:=by
 refine (M.lock_iff _).2 ⟨σ,BP.refl _,?_⟩;rw[hg];refine⟨sl,TT hsl,m,targs,pre,_,hP▸hI▸ht,he,(Dz hpre).1,hm,(Dz hpre).2,?_⟩
 rintro res' post' new' ⟨rfl,rfl,rfl⟩
 trivial
end
end
end Go.AM
namespace Go.AM
open Go
def slB (d:Nat) (b:Bool) (l:List (Nat×AV)):List Nat→List (Nat×AV)
 | []=>[]
 | k::r=>(match Nat.beq k d with
  | true=>(k,.v (.d (.bool b)))
  | false=>(k,AQ l k))::slB d b l r
def hpB (h:List (Id×AD)):List Id→List (Id×AD)
 | []=>[]
 | i::r=>(match AJ h i with
  | some o=>(i,o)::hpB h r
  | none=>hpB h r)
def stB (d:Nat) (ks:List Nat) (is:List Id) (nx:Nat) (σ:St) (b:Bool):St:=⟨slB d b σ.slots ks,hpB σ.heap is,nx⟩
theorem Yt {M:Aw}{ea eb:St→(Ct→St→Prop)→Prop}{σ:St}{K:Ct→St→Prop}(d:Nat) (ks:List Nat) (is:List Id) (nx:Nat) (I:Nat→Bool→Prop)
  (ha:ea σ fun e σ'=>match e with
   | .normal=>∃σ'',BP σ' σ''∧∃t:Nat×Bool,I t.1 t.2∧σ''=stB d ks is nx σ t.2
   | .exit id=>K (.exit id) σ'
   | .ret=>K .ret σ') (hb:∀t:Nat×Bool,I t.1 t.2→eb (stB d ks is nx σ t.2) K):M.lock fun _=>nU ea eb σ K:=
 jH (fun t:Nat×Bool=>stB d ks is nx σ t.2) (fun t=>I t.1 t.2) ha hb
end Go.AM
namespace Go.AM
open Go Go.RowKit
theorem JN {P:Program}{fn:Func}{tmps:Array Value}{R:Ending→World→Prop}:∀(ds:List Nat) (w:World) (fr:Frame) (cs:List Frame),fr.mode= .returning→fr.defers=ds.map DB→fr.tmps=tmps→
  P.funcs[fr.fn]?=some fn→LeavesInM Fence.wide 0 P fn tmps R (ds.map DB) .returning w→
  ∃v w' fr',R (.returned v) w'∧StepsIn (Machine.fenced P Fence.wide) P (lone fr cs w) (lone fr' cs w')∧fr'.kind=fr.kind∧fr'.fn=fr.fn∧fr'.going P w' (.returned v)
 | [],w,fr,cs,hm,hd,ht,hf,h=>by
  obtain⟨v,hr,hR⟩:=h;exact⟨v,w,fr,hR,.refl _,rfl,rfl,hm,hd,fn,hf,ht▸hr⟩
 | r::ds,w,fr,cs,hm,hd,ht,hf,h=>by
  obtain⟨hrun,⟨r',w1,htar,htake,hrest⟩ | ⟨_,fv,cap,f,args,htar,_⟩⟩:=h
  ·have h1:=step_collected (P:=P) (cs:=cs) (w:=w) (hm▸hrun) hd htar htake;have i1:(lone fr cs w).fenced P Fence.wide:=fenced_out (n:=0) trivial (room_wide _) (hm▸hrun) hd (fun g hg=>by trivial)
   obtain⟨v,w',fr',hR,hs,hk,hfn,hg⟩:=JN ds w1 {fr with defers:=[]++ds.map DB} cs hm rfl ht hf hrest
   exact⟨v,w',fr',hR,StepsIn.trans (.one i1 h1) hs,hk,hfn,hg⟩
  ·cases htar
section
variable {P:Program}{f:FuncId}{fn:Func}{c:Code}
theorem Ni {args:Array Value}{u:FrameMode}{w:World}{R:Ending→World→Prop}
  (hf:P.funcs[f]?=some fn) (hb:fn.body=some c)
  (h:c.wpIn Fence.wide 0 P (fun e a' w'=>match e with
   | .normal=>(∃ds:List Nat,a'.defers=ds.map DB)∧LeavesInM Fence.wide 0 P fn a'.tmps R a'.defers .returning w'
   | .ret=>(∃ds:List Nat,a'.defers=ds.map DB)∧LeavesInM Fence.wide 0 P fn a'.tmps R a'.defers .returning w'
   | _=>False) {tmps:=args++Array.replicate (fn.ntmps - args.size) undef,defers:=[]} w):CallsDIn Fence.wide 0 P f args u w fun e u' w'=>u'=u∧R e w':=by
 refine⟨trivial,fun c₀ cs hu hr=>?_⟩
 let b:Frame:={(default:Frame)with fn:=f,kind:=.deferred,roundOf:=none}
 have henter:Frame.enter P f args .deferred=
   b.atR {tmps:=args++Array.replicate (fn.ntmps - args.size) undef,defers:=[]} [.code c]:=by
  simp[Frame.enter,Frame.atR,hf,hb,b]
 have hc:({c₀ with mode:=u}:Frame)=c₀:=by subst hu;rfl
 obtain⟨e,a',w',hq,harr⟩:=h b [] (c₀::cs) rfl trivial hr;rw[←henter]at harr;cases e with
 | normal=>
  obtain⟨⟨ds,hds⟩,hq⟩:=hq;rw[hds]at hq;obtain⟨v,w2,fr',hR,hs,hk,hfn,hg⟩:=JN (P:=P) (fn:=fn) ds w' {b.atR a' []with mode:=.returning} (c₀::cs) rfl hds rfl hf hq
  refine⟨.returned v,u,w2,fr',⟨rfl,hR⟩,?_,hk,hfn,hg⟩;rw[hc];exact StepsIn.trans (StepsIn.trans harr (.one (fenced_calm (fr:=b.atR a' []) trivial hr rfl) (stepR_end rfl))) hs
 | ret=>
  obtain⟨⟨ds,hds⟩,hq⟩:=hq;obtain⟨todo,hs0⟩:=harr.1 rfl;rw[hds]at hq;obtain⟨v,w2,fr',hR,hs,hk,hfn,hg⟩:=JN (P:=P) (fn:=fn) ds w' {b.atR a' todo with mode:=.returning} (c₀::cs) rfl hds rfl hf hq
  refine⟨.returned v,u,w2,fr',⟨rfl,hR⟩,?_,hk,hfn,hg⟩;rw[hc];exact StepsIn.trans hs0 hs
 | exit id=>exact hq.elim
 | goto l=>exact hq.elim
 | panic ch=>exact hq.elim
 | outgrown=>exact hq.elim
def TU (P:Program) (I:Inv) (f:FuncId) (args:List V1) (pre:List AD) (Q:AV→List AD→List AD→Prop):Prop:=
 (∃fn c,P.funcs[f]?=some fn∧fn.body=some c∧(fn.name== "runtime.NumGoroutine")=false)∧
 ∀w X g (vals:Array Value),(∀b o,X b o→b<w.heap.size)→I.at w (Av (zone g (Ad pre)) X)→DA w X g (Ad pre)→(∀n,g (.loc n)=undef)→vals.size=args.length→
  (∀(j:Nat) x v,args[j]?=some x→vals[j]?=some v→Ah w (Av (zone g (Ad pre)) X) g (Ad pre) x v)→
  CallsDIn Fence.wide 0 P f vals .returning w fun e u' w'=>u'= .returning∧∃v g' res post new,Q res post new∧e= .returned v∧CW w X g pre res post new v w' g'
variable {args:List V1}{ti:Types}{pre:List AD}{Q:AV→List AD→List AD→Prop}
theorem TU.intro {I:Inv}(dr:Aw→Nat→Qg) (hti:Ay P ti) (h1:BH ti) (hdr:∀C:Cx,C.P=P→GX C (dr C.M C.nt)) (hf:P.funcs[f]?=some fn) (hb:fn.body=some c)
  (hname:(fn.name== "runtime.NumGoroutine")=false) (hargs:args.length≤fn.ntmps)
  (hx:∀M:Aw,M.P=P→M.I=I→exec M ti fn.ntmps (dr M fn.ntmps) c ⟨slotsOf args 0,Bq pre 0,0⟩ fun e σ=>match e with
   | .exit _=>False
   | .normal=>∃res post new,Q res post new∧JI ti fn.results.toList σ res post new
   | .ret=>∃res post new,Q res post new∧JI ti fn.results.toList σ res post new):TU P I f args pre Q:=
 ⟨⟨fn,c,hf,hb,hname⟩,fun w X g vals hX hI RH hg hsz hargs'=>Ni hf hb (Et.body dr hti h1 hdr hf hb hname hargs hx w X g vals hX hI RH hg hsz hargs')⟩
def E8 (M:Aw) (ti:Types) (rs:List ResultVar) (Q:AV→List AD→List AD→Prop) (f:Nat) (cs:List FC):List D→St→Prop
 | [],σ=>∃σ1,BP σ σ1∧∃res post new,Q res post new∧JI ti rs σ1 res post new
 | r::rows,σ=>∃σ1,BP σ σ1∧AQ σ1.slots DT= .df f cs (r::rows)∧∃(m:List Id) (targs:List V1) (pre:List AD) (Qd:AV→List AD→List AD→Prop),TU M.P M.I f targs pre Qd∧(fill cs r.cells).map YF=targs.map (V1.A0 (BG m σ1.next))∧m.length=pre.length∧m.Nodup∧
   Sp (AJ σ1.heap) (BG m σ1.next) m pre∧∀res post new,Qd res post new→(Bi pre post∧new.length≤31)∧
    E8 M ti rs Q f cs rows ⟨(DT,.df f cs rows)::σ1.slots,Cg σ1.heap (MQ m (BG m σ1.next) post++Cl σ1.next (BG m σ1.next) 0 new),σ1.next+32⟩
theorem E8.AMz {M:Aw}{rs:List ResultVar}{f:Nat}{cs:List FC}:∀{rows:List D}{σ σ':St},BP σ σ'→E8 M ti rs Q f cs rows σ'→E8 M ti rs Q f cs rows σ
 | [],σ,σ',hw,h=>by
  obtain⟨σ1,h1,h⟩:=h;exact⟨σ1,BP.trans hw h1,h⟩
 | r::rows,σ,σ',hw,h=>by
  obtain⟨σ1,h1,h⟩:=h;exact⟨σ1,BP.trans hw h1,h⟩
theorem Lx {P:Program}{I:Inv}{ti:Types}{fn:Func}{Q:AV→List AD→List AD→Prop}{f:Nat}{cs:List FC}{w:World}{X:Ak}{g:AP}{pre:List AD}{C:Cx}(hti:Ay P ti) (h1:BH ti) (hMP:C.M.P=P) (hMc:C.M.cl=true)
  (hw0:Bs (zone g (Ad pre)) w C.w0) (hX:∀b o,X b o→C.X b o) (hZ:∀b o,C.Z0 b o→zone g (Ad pre) b o∨w.heap.size≤b) (hg:∀j,CU (g (.ext j)) (C.g0 (.ext j))):∀(rows:List D) (σ:St) (a:Act) (w1:World) (tmps:Array Value),
  E8 C.M ti fn.results.toList Q f cs rows σ→AQ σ.slots DT= .df f cs rows→a.tmps=tmps→Bx C σ a w1→
  LeavesInM Fence.wide 0 P fn tmps (fun e w'=>∃v g' res post new,Q res post new∧e= .returned v∧CW w X g pre res post new v w' g') a.defers .returning w1
 | [],σ0,a,w1,tmps,hk,hdt,ht,R0=>by
  obtain⟨g0,R0⟩:=R0;have hd:=R0.defers;rw[hMc]at hd;have hd0:=(hd f cs [] hdt).1;have hd1:a.defers=[]:=by simpa using hd0
  rw[hd1];obtain⟨σ1,hwk0,res,post,new,hQ,gs,hfin⟩:=hk;obtain⟨σ,hweak,hfin⟩:=B9 hfin;obtain⟨g1,R1⟩:=hweak _ _ _ (hwk0 _ _ _ ⟨g0,R0⟩);have hP:C.P=P:=hMP;have hti2:Ay C.P ti:=by rw[hP];exact hti
  obtain⟨xs,vs,⟨nm,hnd,hres,hpost,hnewo,hhand⟩,hrun,hlen,hrel⟩:=EA (C:=C) hti2 h1 R1 _ _ hfin;obtain⟨f1,f2,f3,f4⟩:=finish (X:=X) R1 hX (CB.1 hnd) hpost hnewo hhand;have hrr:=Lm (C:=C) hrun;rw[hP,ht]at hrr;refine⟨_,hrr,_,fun i=>g1 (Cu nm σ.next i),res,post,new,hQ,rfl,⟨f1,?_,?_,fun j=>(hg j).trans (R1.ext j),fun i ob b o hi hb=>?_,f3⟩⟩
  ·refine f4 res _ ?_;rw[←hres]
   have other:xs.length≠1→An w1 (Av (zone g1 (AJ σ.heap)) C.X) g1 (AJ σ.heap) (.t xs) (.tuple vs.toArray):=fun _=>
    ⟨vs.toArray,rfl,by simpa using hlen,fun j x v hx hv=>hrel j x v hx (by simpa using hv)⟩
   match xs,vs,hlen,hrel,other with
   | [x],[v],_,hrel,_=>exact hrel 0 x v rfl rfl
   | [],[],_,_,other=>exact other (by simp)
   | x::y::xs,v::u::vs,hl,_,other=>
    have:¬(v::u::vs).toArray.size=1:=by simp
    simp only[dif_neg this];exact other (by simp)
  ·refine hw0.then (R1.frame) (fun b o hz=>hZ b o hz)
  ·obtain⟨j,ob',hj,hz⟩:=f2 i ob b o hi hb;rcases R1.within j ob' b o hj hz with hz | hz
   ·exact hZ b o hz
   ·exact .inr (Nat.le_trans hw0.size hz)
 | r::rows,σ0,a,w1,tmps,hk,hdt,ht,R0=>by
  obtain⟨σ,hwk,hdt,m,targs,pre',Qd,htrip,hargs,hlen,hnd,hpre,hK⟩:=hk;obtain⟨g1,R1⟩:=hwk _ _ _ R0;have hcl:C.M.cl=true:=hMc;have hd:=R1.defers;rw[hcl]at hd;obtain⟨hl,hds⟩:=hd f cs (r::rows) hdt;cases hda:a.defers with
  | nil=>simp_all
  | cons d ds=>
   rw[hda]at hl hds;obtain⟨ps,rfl,hclo⟩:=hds 0 r d rfl rfl;obtain⟨hpsz,hcap⟩:=SN (h:=AJ σ.heap) hclo;have hP:C.P=P:=hMP;obtain⟨⟨fnd,body,hfn,hb,hname⟩,htrip⟩:=htrip;rw[show C.M.P=P from hP]at hfn htrip
   have hn':¬fnd.name= "runtime.NumGoroutine" :=by simpa using hname
   refine⟨by simp,.inr ⟨(fun h=>by cases h),.func f,ps,f,ps,rfl,?_,fun _ _=>trivial,?_⟩⟩
   ·simp[invoke,callFunc,hfn,hb,hn']
   have core:=Du (C:=C) (Qp:=Qd) (Run:=fun p=>CallsDIn Fence.wide 0 P f ps .returning w1 fun e u' w'=>u'= .returning∧p e w') (vals:=ps) (dst:=none) (Q:=fun _ _ _=>False) (a:=a) R1 (fun hpq hp=>CallsDIn.mono hp fun e u' w' q=>⟨q.1,hpq _ _ q.2⟩)
    (fun X' g' _ k1 k2 k3 k4 k6=>htrip w1 X' g' ps k1 k2 k3 k4 (by have:=congrArg List.length hargs;simp at this;omega) k6) hlen hnd hpre (fun r p q h=>(hK r p q h).1) (fun k _=>by simp_all) (fun d hd=>by cases hd) (targs:=targs) (by grind)
   refine CallsDIn.mono core ?_
   rintro e u' w2 ⟨rfl,he⟩
   cases e with
   | panicked ch=>exact he.elim
   | outgrown=>exact absurd he (by simp[LetsOut])
   | returned v=>
    obtain⟨res,post,new,hq,g2,_,R2⟩:=he;have hlv:=(hK res post new hq).2
    have R3:Bx C ⟨(DT,.df f cs rows)::σ.slots,Cg σ.heap (MQ m (BG m σ.next) post++Cl σ.next (BG m σ.next) 0 new),σ.next+32⟩ {tmps:=a.tmps,defers:=ds} w2:=by
     refine⟨g2,?_⟩;have hdf:=R2.defers;rw[hcl]at hdf;obtain⟨q1,q2⟩:=hdf f cs (r::rows) (by simpa [CR] using hdt)
     have hda':(a.put none v).defers=⟨.fn (.func f) ps,#[]⟩::ds:=hda;rw[hda']at q1 q2;rw[Ce];refine {R2.Af (F':=fun n=>σ.next+32≤n) (fun n hn=>⟨by omega,by omega⟩)with size:=R2.size,defers:=?_,slots:=fun t=>?_}
     ·rw[hcl];intro f' cs' rows' e;rw[Bf]at e;simp only[CR]at e;cases e
      exact⟨by simpa using q1,fun k y d hy hd=>q2 (k+1) y d (by simpa using hy) (by simpa using hd)⟩
     ·rw[Bf];simp only[CR];split
      ·trivial
      ·exact R2.slots t
    have:=Lx (P:=P) (I:=I) (fn:=fn) hti h1 hMP hMc hw0 hX hZ hg rows _ {tmps:=a.tmps,defers:=ds} w2 tmps hlv (by rfl) ht R3
    exact this
theorem Et.zK {I:Inv}(dr:Aw→Nat→Qg) (hti:Ay P ti) (h1:BH ti) (hdr:∀C:Cx,C.P=P→GX C (dr C.M C.nt)) (hf:P.funcs[f]?=some fn) (hb:fn.body=some c)
  (hname:(fn.name== "runtime.NumGoroutine")=false) (hargs:args.length≤fn.ntmps) (hnt:fn.ntmps≤DT) (hnr:D8 c=true) (fd:Nat) (cs:List FC)
  (hx:∀M:Aw,M.P=P→M.I=I→M.cl=true→exec M ti fn.ntmps (dr M fn.ntmps) c ⟨(DT,.df fd cs [])::slotsOf args 0,Bq pre 0,0⟩ fun e σ=>match e with
   | .exit _=>False
   | .normal=>∃rows,E8 M ti fn.results.toList Q fd cs rows σ∧AQ σ.slots DT= .df fd cs rows
   | .ret=>∃rows,E8 M ti fn.results.toList Q fd cs rows σ∧AQ σ.slots DT= .df fd cs rows):Et P I f args pre Q:=by
 refine⟨⟨fn,c,hf,hb,hname⟩,fun w X g vals hX hI RH hg hsz hargs'=>?_⟩
 let C:Cx:={M:=Aw.of P I true,nt:=fn.ntmps,w0:=w,Z0:=zone g (Ad pre),X:=X,g0:=g,hinv:=hI,ro:=none,D:=[],hro:=fun l hl=>(by cases hl),hD:=fun r hr=>(by cases hr),hDn:=List.nodup_nil,hcl:=fun _=>⟨hnt,rfl⟩}
 have R0:Bx C ⟨(DT,.df fd cs [])::slotsOf args 0,Bq pre 0,0⟩ {tmps:=vals++Array.replicate (fn.ntmps - vals.size) undef,defers:=[]} w:=by
  refine JK (P:=P) (by simp[C];omega) ?_ (fun t=>?_) RH rfl rfl (fun _ _ h=>h) hX hg
  ·show DY _ _ _ true _ _ _;rw[Bf];simp only[if_pos];intro f' cs' rows' e;cases e
   exact⟨rfl,fun k r d hr=>by simp at hr⟩
  ·rw[Bf];simp only[];split
   ·trivial
   rcases HU args 0 t with h | ⟨x,_,h2,h3⟩
   ·rw[h];trivial
   ·rw[h3];simp only[Nat.sub_zero]at h2;have hlt:t<vals.size:=by grind
    have:(vals++Array.replicate (fn.ntmps - vals.size) undef).getD t undef=vals[t]:=by
     simp[Array.getElem?_append,hlt]
    show Ah w _ g _ x ((vals++Array.replicate (fn.ntmps - vals.size) undef).getD t undef);rw[this];exact hargs' t x _ h2 (by simp[hlt])
 refine callsIn_wide.1 (callsIn_of_wp_marks (n:=0) hf hb trivial (wpIn_mono (Bg (M:=Aw.of P I true) (ro:=none) hti h1 (fun C hC hn=>by
  have:=hdr C (by show C.M.P=P;rw[hC];rfl)
  grind) c _ _ C _ w rfl rfl rfl (fun _=>hnr) (hx (Aw.of P I true) rfl rfl rfl) R0) ?_))
 have fin:∀(C':Cx) (σ:St) (a':Act) (w':World),Dd C C'→(∃rows,E8 (Aw.of P I true) ti fn.results.toList Q fd cs rows σ∧AQ σ.slots DT= .df fd cs rows)→Bx C' σ a' w'→
   LeavesInM Fence.wide 0 P fn a'.tmps (fun e w'=>∃v g' res post new,Q res post new∧e= .returned v∧CW w X g pre res post new v w' g') a'.defers .returning w':=by
  rintro C' σ a' w' hle ⟨rows,hlv,hdt⟩ R
  exact Lx (P:=P) (I:=I) hti h1 (by rw[hle.M];rfl) (by rw[hle.M];rfl) hle.frame (fun b o hx=>hle.X b o hx) hle.Z0 hle.ext rows σ a' w' _ (by rw[hle.M];exact hlv) hdt rfl R
 intro e a' w' hq;cases e with
 | normal=>obtain⟨C',hle,σ,hf',hr⟩:=hq;exact fin C' σ a' w' hle hf' hr
 | ret=>obtain⟨C',hle,σ,hf',hr⟩:=hq;exact fin C' σ a' w' hle hf' hr
 | exit id=>obtain⟨C',hle,σ,hf',hr⟩:=hq;exact hf'.elim
 | goto l=>exact hq.elim
 | panic ch=>obtain⟨C',hle,v0,s,h,nx,hpn,_⟩:=hq;rw[hle.M]at hpn;exact hpn.elim
 | outgrown=>exact hq.elim
end
end Go.AM
namespace Go.Proofs.YtjfmnfncmfepnaaGreatDoor
open Go Go.AM
theorem rM:Tryz.prog.follows .mixedOrders=true:=by kernel_rfl
theorem TV {P:Program}{name:String}{g:Nat}(hg:P.globalNamed name=some g) {w w':World}(h:w'.heap[g]?=w.heap[g]?):w'.var? P name=w.var? P name:=by
 unfold World.var?;simp_all
theorem jI:∃g,Tryz.prog.globalNamed "strings.asciiSpace" =some g:=⟨4,by kernel_rfl⟩
theorem uM:∃g,Tryz.prog.globalNamed "internal/strconv.uint64pow10" =some g:=⟨0,by kernel_rfl⟩
def inv:Inv:=⟨fun b=>Tryz.prog.globalNamed "strings.asciiSpace" =some b∨Tryz.prog.globalNamed "internal/strconv.uint64pow10" =some b,fun w=>Lib.TabIs Tryz.prog w "strings.asciiSpace" .u8 Lib.asciiSpaceTab∧Lib.TabIs Tryz.prog w "internal/strconv.uint64pow10" .u64 Lib.pow10Tab,fun h hr=>by
 obtain⟨g,hg⟩:=jI;obtain⟨g',hg'⟩:=uM;unfold Lib.TabIs at hr ⊢;rw[TV hg (h g (.inl hg)),TV hg' (h g' (.inr hg'))];exact hr⟩
end Go.Proofs.YtjfmnfncmfepnaaGreatDoor
