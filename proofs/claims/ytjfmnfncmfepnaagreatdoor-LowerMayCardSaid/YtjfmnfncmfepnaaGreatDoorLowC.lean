/- Part of a proof. No condition. (Part 3.) -/
import Derived.LoopNIn
import Derived.OrdersIn
import Derived.Test.YtjfmnfncmfepnaaGreatDoorProg
import Derived.KernelRfl
import Derived.Laws.CopyRow
import Derived.DataReads
import Derived.Test.YtjfmnfncmfepnaaGreatDoorLowB
set_option linter.unusedVariables false
set_option linter.unusedSimpArgs false
set_option linter.unusedSectionVars false
namespace Go.AM
open Go Go.RowKit
structure St where
 slots:List (Nat×AV)
 heap:List (Id×AD)
 next:Nat
def AJ:List (Id×AD)→Heap
 | [],_=>none
 | (k,v)::r,i=>match Id.beq k i with
  | true=>some v
  | false=>AJ r i
def Cj:List (Id×AD)→Id→AD→List (Id×AD)
 | [],i,o=>[(i,o)]
 | (k,v)::r,i,o=>match Id.beq k i with
  | true=>(i,o)::r
  | false=>(k,v)::Cj r i o
def Cb (l:List (Id×AD)):List (Id×AD)→List (Id×AD)
 | []=>l
 | (i,o)::r=>Cb (Cj l i o) r
def Ck (l:List (Nat×AV)) (d:Option Tmp) (v:AV):List (Nat×AV):=
 match d with
 | some d=>(d,v)::l
 | none=>l
theorem Ba (k:Nat) (v:AV) (l:List (Nat×AV)):AQ ((k,v)::l)=fun t=>if t=k then v else AQ l t:=by
 funext t
 show (match Nat.beq k t with | true=>v | false=>AQ l t)=_
 cases hb:Nat.beq k t with
 | true=>simp_all
 | false=>rw[if_neg (fun e=>Nat.ne_of_beq_eq_false hb e.symm)]
theorem Cv (l:List (Nat×AV)) (d:Option Tmp) (v:AV):AQ (Ck l d v)=CL (AQ l) d v:=by
 cases d with
 | none=>rfl
 | some d=>exact Ba d v l
theorem CY (k:Id) (v:AD) (l:List (Id×AD)):AJ ((k,v)::l)=AK (AJ l) k v:=by
 funext i
 show (match Id.beq k i with | true=>some v | false=>AJ l i)=if i=k then some v else AJ l i
 cases hb:Id.beq k i with
 | true=>rw[if_pos (Id.beq_iff.1 hb).symm]
 | false=>rw[if_neg (fun e=>Id.beq_false.1 hb e.symm)]
theorem CD (l:List (Id×AD)) (i:Id) (o:AD):AJ (Cj l i o)=AK (AJ l) i o:=by
 induction l with
 | nil=>exact CY i o []
 | cons x l ih=>
  obtain⟨k,v⟩:=x
  unfold Cj
  cases hb:Id.beq k i with
  | true=>
   have:=Id.beq_iff.1 hb
   subst this
   simp only[CY]
   funext j
   simp only[AK]
   split<;>rfl
  | false=>
   have:=Id.beq_false.1 hb
   simp only[CY,ih]
   funext j
   simp only[AK]
   grind
theorem CZ (wr:List (Id×AD)):∀l:List (Id×AD),AJ (Cb l wr)=Ay (AJ l) wr:=by
 induction wr with
 | nil=>intro l;rfl
 | cons x wr ih=>
  intro l
  show AJ (Cb (Cj l x.1 x.2) wr)=Ay (AK (AJ l) x.1 x.2) wr
  rw[ih,CD]
def GD (nt:Nat) (d:Option Tmp) (K:Prop):Prop:=
 match d with
 | none=>K
 | some d=>BH (Nat.blt d nt) K
def Ep (o:Oper) (K:Prop):Prop:=
 match o.op with
 | .store ..=>match o.dst with
  | some _=>False
  | none=>K
 | .mapUpdate ..=>match o.dst with
  | some _=>False
  | none=>K
 | .insert ..=>match o.dst with
  | some _=>False
  | none=>K
 | .defer _=>False
 | _=>K
def Pc (h:Heap):AV→Option (List D)
 | .v (.d (.list _ _ rows))=>some rows
 | .v (.c (.lst _ _ _ rows))=>some rows
 | .v (.c (.tl _ _ rows))=>some rows
 | .v (.c (.ow i))=>match h i with
  | some (.tree kd _ _ rows _)=>match kd with
   | .row=>some rows
   | .flat=>some rows
   | _=>none
  | _=>none
 | _=>none
def Hg:AV→Bool
 | .v (.c (.nils _ _))=>true
 | _=>false
def eqB:BinOp→Option Bool
 | .eql=>some true
 | .neq=>some false
 | _=>none
def Pd (ti:Types) (o:Oper) (s:AL) (h:Heap):Option (Bool×List D):=
 match o.op with
 | .binOp op t x y _=>match eqB op with
  | some e=>match Hg (AX ti s t y)with
   | true=>(match Pc h (AX ti s t x)with
    | some rows=>some (e,rows)
    | none=>none)
   | false=>match Hg (AX ti s t x)with
    | true=>(match Pc h (AX ti s t y)with
     | some rows=>some (e,rows)
     | none=>none)
    | false=>none
  | none=>none
 | _=>none
def Kq (ti:Types) (o:Oper):Bool:=
 match o.op with
 | .binOp _ t _ _ _=>match ti t with
  | some i=>match i.desc with
   | .slice _=>true
   | _=>false
  | none=>false
 | _=>false
def Bq (C:Cx) (σ:St) (a:Act) (w:World):Prop:=Rel C (fun n=>σ.next≤n) (AQ σ.slots) (AJ σ.heap) a w
def BM (σ σ':St):Prop:=∀C a w,Bq C σ a w→Bq C σ' a w
def Dn (o:Oper):Bool:=
 match o.op with
 | .call c=>match c.callee with
  | .value _=>true
  | _=>false
 | .panic _=>true
 | _=>false
def Re (h:Heap) (r:Id→Id) (m:List Id) (pre:List AD):Prop:=∀(j:Nat) i o,m[j]?=some i→pre[j]?=some o→h i=some (o.Az r)
def nJ (r:Id→Id) (sl:List (Nat×AV)):List (Nat×AV):=sl.map fun x=>(x.1,x.2.Az r)
def T8 (M:Au) (dst:Option Tmp) (fresh:Nat) (σ:St) (n:FuncId) (xs:List V1) (K:St→Prop):Prop:=
 ∃(m:List Id) (targs:List V1) (pre:List AD) (Q:AV→List AD→List AD→Prop),EP M.P M.I n targs pre Q∧xs=targs.map (V1.Az (BF m fresh))∧m.length=pre.length∧m.Nodup∧
  Re (AJ σ.heap) (BF m fresh) m pre∧∀res post new,Q res post new→(Bc pre post∧new.length≤31)∧
   K ⟨Ck σ.slots dst (res.Az (BF m fresh)),Cb σ.heap (Kk m (BF m fresh) post++Cf fresh (BF m fresh) 0 new),σ.next⟩
def YP (M:Au) (dst:Option Tmp) (fresh:Nat) (σ:St) (i:Id) (r:Unit→RF) (sl:List (Nat×AV)) (xs:List V1) (K:St→Prop):Prop:=
 ∃(m:List Id) (targs:List V1) (pre:List AD) (sl0:List (Nat×AV)) (Q:Jump→List AD→List AD→Prop),E2 M.P M.I (r ()) sl0 targs pre Q∧xs=targs.map (V1.Az (BF (m++[i]) fresh))∧
  sl=nJ (BF (m++[i]) fresh) sl0∧m.length=pre.length∧(m++[i]).Nodup∧Re (AJ σ.heap) (BF (m++[i]) fresh) m pre∧∀j post new,Q j post new→(Bc pre post∧new.length≤31)∧
   K ⟨Ck σ.slots dst (.v (.d (.bool j.isNone))),Cb σ.heap (Kk (m++[i]) (BF (m++[i]) fresh) (post++[Dm j r sl0])++Cf fresh (BF (m++[i]) fresh) 0 new),σ.next⟩
def OO (M:Au) (ti:Types) (o:Oper) (fresh:Nat) (σ:St) (K:St→Prop):Prop:=
 match o.op with
 | .call c=>match c.callee with
  | .value f=>∃σ',BM ⟨σ.slots,σ.heap,fresh⟩ σ'∧σ'.next=fresh∧(match AX ti (AQ σ'.slots) 0 f with
   | .v (.c (.fn n cap))=>withArgs (Bf ti (AQ σ'.slots) c.args.toList c.argTypes.toList) fun xs=>T8 M o.dst fresh σ' n (xs++cap.map fun i=>V1.c (.ptr i 0)) K
   | .v (.c (.yl i))=>withArgs (Bf ti (AQ σ'.slots) c.args.toList c.argTypes.toList) fun xs=>(match AJ σ'.heap i with
    | some (.rnd r sl)=>YP M o.dst fresh σ' i r sl xs K
    | _=>False)
   | _=>False)
  | _=>False
 | _=>False
def nK:CV→Bool
 | .ow _=>true
 | .sl _ _=>true
 | _=>false
def YQ {α:Type}(p:α→Bool):List α→Bool
 | []=>false
 | x::r=>match p x with
  | true=>true
  | false=>YQ p r
def Rf:AV→Bool
 | .v (.c c)=>nK c
 | .v (.agg cs)=>YQ nK cs
 | _=>false
def nL:D→Bool
 | .list _ _ _=>true
 | _=>false
def nM:CV→Bool
 | .d x=>nL x
 | .lst _ _ _ _=>true
 | .tl _ _ _=>true
 | _=>false
def nN:AV→Bool
 | .v (.d x)=>YQ nL x.cells
 | .v (.c c)=>nM c
 | .v (.agg cs)=>YQ nM cs
 | _=>false
def KD:AV→Bool
 | .v (.c (.ow _))=>true
 | _=>false
def YR (ti:Types) (o:Oper) (s:AL) (h:Heap):Option Bool:=
 match o.op with
 | .slice t x _ _ _=>(match KD (AX ti s t x)with
  | true=>some true
  | false=>none)
 | .convert t _ x=>(match KD (AX ti s t x)with
  | true=>some true
  | false=>none)
 | .store t x y=>(match JQ (AX ti s 0 x) h with
  | true=>(match Rf (AX ti s t y)with
   | true=>some true
   | false=>none)
  | false=>(match PS (AX ti s 0 x)with
   | true=>(match nN (AX ti s t y)with
    | true=>some false
    | false=>none)
   | false=>(match Rd (AX ti s 0 x) h with
    | true=>(match Rf (AX ti s t y)with
     | true=>some true
     | false=>none)
    | false=>none)))
 | .indexAddr t x _=>(match KD (AX ti s t x)with
  | true=>some false
  | false=>none)
 | .mapUpdate _ _ _ z=>(match Rf (AX ti s 0 z)with
  | true=>some true
  | false=>none)
 | .call c=>(match c.callee with
  | .builtin .delete=>some true
  | .builtin .append=>(match c.args.toList,c.argTypes.toList with
   | [x,y],[t,t']=>(match Rf (AX ti s t x)with
    | true=>some false
    | false=>(match Rf (AX ti s t' y)with
     | true=>some false
     | false=>none))
   | _,_=>none)
  | _=>none)
 | _=>none
def Wg (M:Au) (ti:Types) (o:Oper) (fresh:Nat) (σ:St) (K:St→Prop):Prop:=
 ∃σ',BM ⟨σ.slots,σ.heap,fresh⟩ σ'∧σ'.next=fresh∧DZ M ti o fresh (AQ σ'.slots) (AJ σ'.heap) fun out=>K ⟨Ck σ'.slots o.dst out.val,Cb σ'.heap out.wr,σ'.next⟩
def vF (M:Au) (ti:Types) (o:Oper) (fresh:Nat) (σ:St) (K:St→Prop):Prop:=
 DZ M ti o fresh (AQ σ.slots) (AJ σ.heap) fun out=>K ⟨Ck σ.slots o.dst out.val,Cb σ.heap out.wr,σ.next⟩
def pY (M:Au) (fresh:Nat) (s:List (Nat×AV)) (h:List (Id×AD)) (n:FuncId) (args:List V1):Prop:=
 ∃(m:List Id) (targs:List V1) (pre:List AD) (v0:Value) (post new:List AD),uZ M.P M.I n targs pre v0 post new∧args=targs.map (V1.Az (BF m fresh))∧m.length=pre.length∧m.Nodup∧
  (∀(j:Nat) i o,m[j]?=some i→pre[j]?=some o→AJ h i=some (o.Az (BF m fresh)))∧Bc pre post∧new.length≤31∧
  M.pn v0 s (Cb h (Kk m (BF m fresh) post++Cf fresh (BF m fresh) 0 new)) (fresh+32)
def vG (M:Au) (ti:Types) (o:Oper) (fresh:Nat) (σ:St):Prop:=
 match o.op with
 | .call c=>match c.callee with
  | .value f=>match AX ti (AQ σ.slots) 0 f with
   | .v (.c (.fn n cap))=>∃xs,VR (Bf ti (AQ σ.slots) c.args.toList c.argTypes.toList) xs∧pY M fresh σ.slots σ.heap n (xs++cap.map fun i=>V1.c (.ptr i 0))
   | .v (.c (.bm n i))=>∃xs,VR (Bf ti (AQ σ.slots) c.args.toList c.argTypes.toList) xs∧pY M fresh σ.slots σ.heap n (V1.c (.ptr i 0)::xs)
   | _=>False
  | _=>False
 | .panic x=>match AX ti (AQ σ.slots) 0 x with
  | .v (.c (.kv v))=>match v with
   | .iface t u=>M.pn (.iface t u) σ.slots σ.heap fresh
   | _=>False
  | _=>False
 | _=>False
def Lm (M:Au) (ti:Types) (nt:Nat) (o:Oper) (fresh:Nat) (σ:St) (K:St→Prop):Prop:=
 Ep o<| GD nt o.dst<| match Pd ti o (AQ σ.slots) (AJ σ.heap)with
  | some (e,rows)=>BH (Kq ti o)<| (rows≠[]→K ⟨Ck σ.slots o.dst (.v (.d (.bool (C6 e)))),σ.heap,σ.next⟩)∧
    (rows=[]→K ⟨Ck σ.slots o.dst (.v (.d (.bool e))),σ.heap,σ.next⟩∧K ⟨Ck σ.slots o.dst (.v (.d (.bool (C6 e)))),σ.heap,σ.next⟩)
  | none=>match Dn o with
   | true=>M.lock fun _=>(DZ M ti o fresh (AQ σ.slots) (AJ σ.heap) fun out=>K ⟨Ck σ.slots o.dst out.val,Cb σ.heap out.wr,σ.next⟩)∨(OO M ti o fresh σ K∨vG M ti o fresh σ)
   | false=>match YR ti o (AQ σ.slots) (AJ σ.heap)with
    | none=>DZ M ti o fresh (AQ σ.slots) (AJ σ.heap) fun out=>K ⟨Ck σ.slots o.dst out.val,Cb σ.heap out.wr,σ.next⟩
    | some b=>match b with
     | true=>M.lock fun _=>Wg M ti o fresh σ K
     | false=>M.lock fun _=>vF M ti o fresh σ K∨Wg M ti o fresh σ K
def guarded (ops:Array Oper) (o:Oper) (σ:St) (K1 K0:St→Prop):Prop:=
 match o.guard with
 | none=>K1 σ
 | some (j,want)=>match (ops[j]?).bind (·.dst)with
  | none=>False
  | some d=>match AQ σ.slots d with
   | .v (.d (.bool c))=>match want with
    | true=>match c with
     | true=>K1 σ
     | false=>K0 σ
    | false=>match c with
     | true=>K0 σ
     | false=>K1 σ
   | .t []=>K0 σ
   | _=>False
def Hh (o:Oper):Option Operand:=
 match o.op with
 | .defer c=>match o.dst with
  | none=>match c.callee with
   | .value x=>match c.args.toList with
    | []=>some x
    | _=>none
   | _=>none
  | some _=>none
 | _=>none
theorem Rh {o:Oper}{x:Operand}(h:Hh o=some x):∃c,o.op= .defer c∧o.dst=none∧c.callee= .value x∧c.args=#[]:=by
 unfold Hh at h
 grind
def pZ (M:Au) (ti:Types) (x:Operand) (fresh:Nat) (σ:St) (K:St→Prop):Prop:=
 ∃σ',BM ⟨σ.slots,σ.heap,fresh⟩ σ'∧σ'.next=fresh∧∃f cs rows r,AX ti (AQ σ'.slots) 0 x= .v (.c (.fz f (fill cs r.cells)))∧AQ σ'.slots DT= .df f cs rows∧M.cl=true∧
  K ⟨Ck σ'.slots (some DT) (.df f cs (r::rows)),σ'.heap,σ'.next⟩
def Pe (M:Au) (ti:Types) (x:Operand) (fresh:Nat) (σ:St) (K:St→Prop):Prop:=M.lock fun _=>pZ M ti x fresh σ K
def B8 (M:Au) (ti:Types) (nt:Nat) (ops:Array Oper) (base:Nat):List Oper→Nat→St→(St→Prop)→Prop
 | [],i,σ,K=>K ⟨σ.slots,σ.heap,base+32*i⟩
 | o::r,i,σ,K=>guarded ops o σ
   (fun σ1=>match Hh o with
    | some x=>Pe M ti x (base+32*i) σ1 fun σ2=>B8 M ti nt ops base r (i+1) σ2 K
    | none=>Lm M ti nt o (base+32*i) σ1 fun σ2=>B8 M ti nt ops base r (i+1) σ2 K)
   (fun σ1=>GD nt o.dst (B8 M ti nt ops base r (i+1) ⟨Ck σ1.slots o.dst (.t []),σ1.heap,σ1.next⟩ K))
inductive Cm where
 | normal
 | exit (id:Nat)
 | ret
abbrev Pf:=Array Oper→St→(St→Prop)→Prop
def Va (ex:St→(Cm→St→Prop)→Prop) (σ:St) (K:Cm→St→Prop):Prop:=
 ∃(I:Nat→St→Prop) (m:Nat),(∃σ0,BM σ σ0∧I m σ0)∧∀n σ1,I n σ1→ex σ1 fun e σ2=>match e with
  | .normal=>∃n' σ3,n'<n∧BM σ2 σ3∧I n' σ3
  | .exit id=>K (.exit id) σ2
  | .ret=>K .ret σ2
def Kr (M:Au) (ex:St→(Cm→St→Prop)→Prop) (K:Cm→St→Prop):Nat→St→Prop
 | 0,σ=>M.lock fun _=>Va ex σ K
 | n+1,σ=>ex σ fun e σ2=>match e with
  | .normal=>Kr M ex K n σ2
  | .exit id=>K (.exit id) σ2
  | .ret=>K .ret σ2
def T9 (M:Au) (ti:Types) (nt:Nat) (g:Operand) (ps:Array Tmp) (assign body:Code) (σ:St) (K:Cm→St→Prop):Prop:=
 ∃σ',BM σ σ'∧(match AX ti (AQ σ'.slots) 0 g with
  | .v (.c (.fn n cap))=>∃sl:List (Nat×AV),(∀t,AQ sl t= .u∨AQ sl t=AQ σ'.slots t)∧
    T8 M none (σ'.next+32) ⟨σ'.slots,Cj σ'.heap (.loc σ'.next) (.rnd (fun _=>⟨ps,assign,body,nt⟩) sl),σ'.next+64⟩ n (V1.c (.yl (.loc σ'.next))::cap.map fun i=>V1.c (.ptr i 0)) fun σ2=>
     match AJ σ2.heap (.loc σ'.next)with
     | some (.rnd _ _)=>K .normal ⟨σ2.slots,Cj σ2.heap (.loc σ'.next) .gone,σ2.next⟩
     | some (.rndX j)=>(match j with
      | none=>K .ret ⟨σ2.slots,Cj σ2.heap (.loc σ'.next) .gone,σ2.next⟩
      | some id=>K (.exit id) ⟨σ2.slots,Cj σ2.heap (.loc σ'.next) .gone,σ2.next⟩)
     | _=>False
  | _=>False)
def jK (ea eb:St→(Cm→St→Prop)→Prop) (σ:St) (K:Cm→St→Prop):Prop:=
 (ea σ fun e σ'=>match e with
  | .normal=>eb σ' K
  | .exit id=>K (.exit id) σ'
  | .ret=>K .ret σ')∨
 ∃I:St→Prop,(ea σ fun e σ'=>match e with
  | .normal=>∃σ'',BM σ' σ''∧I σ''
  | .exit id=>K (.exit id) σ'
  | .ret=>K .ret σ')∧∀σ'',I σ''→eb σ'' K
def exec (M:Au) (ti:Types) (nt:Nat) (dr:Pf):Code→St→(Cm→St→Prop)→Prop
 | .skip,σ,K=>K .normal σ
 | .region _ ops draw,σ,K=>match draw with
  | false=>B8 M ti nt ops σ.next ops.toList 0 σ fun σ'=>K .normal σ'
  | true=>dr ops σ fun σ'=>K .normal σ'
 | .seq a b,σ,K=>M.lock fun _=>jK (fun σ K=>exec M ti nt dr a σ K) (fun σ K=>exec M ti nt dr b σ K) σ K
 | .cond c a b,σ,K=>N2 (AX ti (AQ σ.slots) 0 c) fun q=>match q with
  | true=>exec M ti nt dr a σ K
  | false=>exec M ti nt dr b σ K
 | .block id c,σ,K=>exec M ti nt dr c σ fun e σ'=>match e with
  | .normal=>K .normal σ'
  | .exit id'=>match Nat.beq id' id with
   | true=>K .normal σ'
   | false=>K (.exit id') σ'
  | .ret=>K .ret σ'
 | .loop c,σ,K=>M.lock fun _=>Va (fun σ K=>exec M ti nt dr c σ K) σ K∨∃n,Kr M (fun σ K=>exec M ti nt dr c σ K) K n σ
 | .exit id,σ,K=>K (.exit id) σ
 | .ret,σ,K=>K .ret σ
 | .rangeFunc g ps assign body,σ,K=>M.lock fun _=>T9 M ti nt g ps assign body σ K
 | _,_,_=>False
def Q7 (C:Cx) (K:Cm→St→Prop):Exit→Act→World→Prop
 | .normal,a,w=>∃C',DW C C'∧∃σ,K .normal σ∧Bq C' σ a w
 | .exit id,a,w=>∃C',DW C C'∧∃σ,K (.exit id) σ∧Bq C' σ a w
 | .ret,a,w=>∃C',DW C C'∧∃σ,K .ret σ∧Bq C' σ a w
 | .panic ch,a,w=>∃C',DW C C'∧∃v0 s h nx,C'.M.pn v0 s h nx∧ch=[{v:=v0,recovered:=false}]∧Rel C' (fun n=>nx≤n) (AQ s) (AJ h) a w
 | _,_,_=>False
theorem Q7.mono {C C':Cx}{K:Cm→St→Prop}(L:DW C C'):∀{e:Exit}{a:Act}{w:World},Q7 C' K e a w→Q7 C K e a w
 | .normal,_,_,⟨D,L',h⟩=>⟨D,L.trans L',h⟩
 | .exit _,_,_,⟨D,L',h⟩=>⟨D,L.trans L',h⟩
 | .ret,_,_,⟨D,L',h⟩=>⟨D,L.trans L',h⟩
 | .panic _,_,_,⟨D,L',h⟩=>⟨D,L.trans L',h⟩
theorem Rel.Ae {C:Cx}{F F':Nat→Prop}{s:AL}{h:Heap}{a:Act}{w:World}(R:Rel C F s h a w) (hF:∀n,F' n→F n):Rel C F' s h a w:=
 let ⟨g,r⟩:=R
 ⟨g,r.Ae hF⟩
section
variable {C:Cx}{ti:Types}{dr:Pf}
theorem HG {nt:Nat}{d:Option Tmp}{K:Prop}:GD nt d K↔(∀x,d=some x→x<nt)∧K:=by
 unfold GD
 split
 ·simp
 ·simp[AA]
section
variable {o:Oper}
theorem KE {K:Prop}(h:Ep o K):((∀t x y,o.op= .store t x y→o.dst=none)∧∀t x y z,(o.op= .mapUpdate t x y z∨o.op= .insert t x y z)→o.dst=none)∧(∀c,o.op≠ .defer c)∧K:=by
 unfold Ep at h
 grind
variable {d:Nat}{F:Nat→Prop}{σ:St}{a:Act}{w:World}{ops:Array Oper}{j:Nat}
theorem qA {c:Bool}(R:Rel C F (AQ σ.slots) (AJ σ.heap) a w)
  (hd:(ops[j]?).bind (·.dst)=some d) (hc:AQ σ.slots d= .v (.d (.bool c))):yielded ops a.tmps j=some c:=by
 obtain⟨g,R⟩:=R
 have:=R.slots d
 rw[hc]at this
 have hv:=PQ this
 unfold yielded
 rw[hd]
 have:a.tmps[d]?=some (.bool c):=by
  rw[Array.getD_eq_getD_getElem?]at hv
  cases h:a.tmps[d]? with
  | none=>rw[h]at hv;simp[undef]at hv
  | some v=>simp_all
 simp[this]
theorem Ie (hd:(ops[j]?).bind (·.dst)=some d) (h:∃vs:Array Value,a.tmps.getD d undef= .tuple vs):yielded ops a.tmps j=none:=by
 obtain⟨vs,hv⟩:=h
 unfold yielded
 rw[hd]
 rw[Array.getD_eq_getD_getElem?]at hv
 grind
theorem Ri (R:Rel C F (AQ σ.slots) (AJ σ.heap) a w)
  (hd:(ops[j]?).bind (·.dst)=some d) (hc:AQ σ.slots d= .t []):yielded ops a.tmps j=none:=by
 obtain⟨g,R⟩:=R
 have:=R.slots d
 rw[hc]at this
 obtain⟨vs,hv,_⟩:=this
 exact Ie hd ⟨vs,hv⟩
theorem Nn {K1 K0:St→Prop}(R:Rel C F (AQ σ.slots) (AJ σ.heap) a w)
  (hk:guarded ops o σ K1 K0):∃σ',σ'.heap=σ.heap∧Rel C F (AQ σ'.slots) (AJ σ'.heap) a w∧
   ((Region.wanted o (yielded ops a.tmps)=true∧K1 σ')∨(Region.wanted o (yielded ops a.tmps)=false∧K0 σ')):=by
 unfold guarded at hk
 split at hk
 ·rename_i hg
  exact⟨σ,rfl,R,.inl ⟨by simp[Region.wanted,hg],hk⟩⟩
 ·rename_i j want hg
  split at hk
  ·exact hk.elim
  ·rename_i d hd
   split at hk
   ·rename_i c hc
    have hy:=qA R hd hc
    cases want<;>cases c
    ·exact⟨σ,rfl,R,.inl ⟨by simp[Region.wanted,hg,hy],hk⟩⟩
    ·exact⟨σ,rfl,R,.inr ⟨by simp[Region.wanted,hg,hy],hk⟩⟩
    ·exact⟨σ,rfl,R,.inr ⟨by simp[Region.wanted,hg,hy],hk⟩⟩
    ·exact⟨σ,rfl,R,.inl ⟨by simp[Region.wanted,hg,hy],hk⟩⟩
   ·rename_i hc
    have hy:=Ri R hd hc
    exact⟨σ,rfl,R,.inr ⟨by simp[Region.wanted,hg,hy],hk⟩⟩
   ·exact hk.elim
variable {g:AO}{h:Heap}{rows:List D}
theorem Ln {X Z:Ai}(RH:C0 w X g h) {x:AV}{v:Value}(hx:Pc h x=some rows) (hr:Aj w Z g h x v):∃A n cap,v= .slice A n cap∧(rows≠[]→A.isNone=false):=by
 have main:∀{ag:Bool} {sz:Nat},AZ w Z (.list ag sz rows) v→∃A n cap,v= .slice A n cap∧(rows≠[]→A.isNone=false):=by
  intro ag sz hd
  obtain⟨A,cap,hv,_,_,_,b,o,hA,_⟩:=IQ hd
  simp_all
 unfold Pc at hx
 split at hx
 ·cases hx;exact main hr
 ·cases hx;exact main hr.1
 ·cases hx;exact main hr.1
 ·rename_i i
  split at hx
  ·rename_i kd ag sz rows' foc hi
   split at hx
   ·cases hx
    obtain⟨ht,h0,hf,xs,ho,_⟩:=RH.objs i _ hi
    obtain⟨A,cap,hv,_,_,hA⟩:=ho.row
    refine⟨A,_,cap,by rw[hr.2.2 (by rw[hi];rfl),hv],fun hne=>?_⟩
    obtain⟨b,rfl⟩:=hA (List.length_pos_iff.2 hne)
    rfl
   ·cases hx
    obtain⟨ht,h0,hf,xs,ho,_⟩:=RH.objs i _ hi
    obtain⟨A,cap,hv,_,_,hA⟩:=ho.WE.row
    refine⟨A,_,cap,by rw[hr.2.2 (by rw[hi];rfl),hv],fun hne=>?_⟩
    obtain⟨b,rfl⟩:=hA (List.length_pos_iff.2 hne)
    rfl
   ·cases hx
  ·cases hx
 ·cases hx
theorem Lp {Z:Ai}{x:AV}{v:Value}(hx:Hg x=true) (hr:Aj w Z g h x v):v= .slice none 0 0:=by
 unfold Hg at hx
 split at hx
 ·exact hr
 ·cases hx
variable {P:Program}
theorem Wh {t e:TypeId}(h:P.underlying t=some (.slice e)) (A:Option Addr) (n cap:Nat) (w:World) (d:Nat):
  (Op.equalIn (d+1) t (.slice A n cap) (.slice none 0 0)).run P w= .ok A.isNone w∧(Op.equalIn (d+1) t (.slice none 0 0) (.slice A n cap)).run P w= .ok A.isNone w:=by
 constructor<;>cases A<;>simp[Op.equalIn,run_underlying h w]
theorem Rj {t e:TypeId}(h:P.underlying t=some (.slice e)) (A:Option Addr) (n cap:Nat) (w:World):
  (Op.equal t (.slice A n cap) (.slice none 0 0)).run P w= .ok A.isNone w∧(Op.equal t (.slice none 0 0) (.slice A n cap)).run P w= .ok A.isNone w:=
 Wh h A n cap w 9999
variable {s:AL}
theorem Wi {C:Cx}{ti:Types}(hti:Ax C.P ti) (R:AY C F s h g a w) {e:Bool}(hn:Pd ti o s h=some (e,rows)) (hs:Kq ti o=true):
  ∃c:Bool,(execOp a.eval o).run C.P w= .ok (.value (.bool (if c then e else !e))) w∧(rows≠[]→c=false):=by
 unfold Pd at hn
 split at hn
 ·rename_i op t x y t' ho
  split at hn
  ·rename_i e' he
   unfold Kq at hs
   rw[ho]at hs
   simp only at hs
   split at hs
   ·rename_i i hi
    split at hs
    ·rename_i el hd
     have hu:=(hti t i hi).1
     rw[hd]at hu
     have ex:=AI ti t x R (s:=s) (fun _ _=>rfl)
     have ey:=AI ti t y R (s:=s) (fun _ _=>rfl)
     have fin:∀(A:Option Addr) (r:Sem Bool),(Op.equal t (a.eval x) (a.eval y)).run C.P w= .ok A.isNone w→(∃n cap,a.eval x= .slice A n cap∨a.eval y= .slice A n cap)→(∃n cap A',a.eval x= .slice A' n cap)→(∃n cap A',a.eval y= .slice A' n cap)→(rows≠[]→A.isNone=false)→e'=e→
       ∃c:Bool,(execOp a.eval o).run C.P w= .ok (.value (.bool (if c then e else !e))) w∧(rows≠[]→c=false):=by
      rintro A r hrun _ ⟨n,cap,A1,hx⟩ ⟨m,cap',A2,hy⟩ hne rfl
      refine⟨A.isNone,?_,hne⟩
      rw[hx,hy]at hrun
      unfold eqB at he
      split at he<;>cases he<;>cases hA:A.isNone<;>simp[execOp,ho,hx,hy,eqGuard,binOp,hrun,hA]
     split at hn
     ·rename_i hny
      split at hn
      ·rename_i rows' hrx
       obtain⟨A,n,cap,hv,hA⟩:=Ln R.heap hrx ex
       have hyv:=Lp hny ey
       cases hn
       exact fin A (pure true) (by rw[hv,hyv];exact (Rj hu A n cap w).1) ⟨n,cap,.inl hv⟩ ⟨n,cap,A,hv⟩ ⟨0,0,none,hyv⟩ hA rfl
      ·cases hn
     ·split at hn
      ·rename_i hnx
       split at hn
       ·rename_i rows' hry
        obtain⟨A,n,cap,hv,hA⟩:=Ln R.heap hry ey
        have hxv:=Lp hnx ex
        cases hn
        exact fin A (pure true) (by rw[hv,hxv];exact (Rj hu A n cap w).2) ⟨n,cap,.inr hv⟩ ⟨0,0,none,hxv⟩ ⟨n,cap,A,hv⟩ hA rfl
       ·cases hn
      ·cases hn
    ·cases hs
   ·cases hs
  ·cases hn
 ·cases hn
variable {K:St→Prop}{fresh:Nat}{dst:Option Tmp}{xs:List V1}{vals:Array Value}
theorem Ig {n:FuncId}{Q:Exit→Act→World→Prop}
  (R:AY C F (AQ σ.slots) (AJ σ.heap) g a w) (hk:T8 C.M dst fresh σ n xs K) (hF:∀k,k<32→F (fresh+k)) (hd:∀d,dst=some d→d<C.nt) (hsz:vals.size=xs.length)
  (hargs:∀(j:Nat) x v,xs[j]?=some x→vals[j]?=some v→Ag w (Ar (zone g (AJ σ.heap)) C.X) g (AJ σ.heap) x v):
  (∃fn c,C.P.funcs[n]?=some fn∧fn.body=some c∧(fn.name== "runtime.NumGoroutine")=false)∧
  Calls C.P n vals w fun
   | .returned v,w''=>∃σ2,K σ2∧σ2.next=σ.next∧∃g2,(∀i q,g i= .map (some q)→g2 i=g i)∧AY C (fun k=>F k∧¬(fresh≤k∧k<fresh+32)) (AQ σ2.slots) (AJ σ2.heap) g2 (a.put dst v) w''
   | .panicked chain,w''=>Q (.panic chain) a w''
   | .outgrown,_=>LetsOut Q:=by
 obtain⟨m,targs,pre,Qp,ht,rfl,hlen,hnd,hpre,hK⟩:=hk
 refine⟨ht.1,?_⟩
 refine Calls.mono (Dj (Qp:=Qp) (Run:=fun p=>Calls C.P n vals w p) (vals:=vals) (dst:=dst) (Q:=Q) R (fun hpq hp=>hp.mono hpq)
  (fun X g1 _ k1 k2 k3 k4 k6=>ht.2 w X g1 vals k1 k2 k3 k4 (by rw[hsz];simp) k6) hlen hnd hpre (fun r p q h=>(hK r p q h).1) hF hd hargs) ?_
 intro e w' he
 cases e with
 | returned v=>
  obtain⟨res,post,new,hq,he⟩:=he
  refine⟨_,(hK res post new hq).2,rfl,?_⟩
  rw[Cv,CZ]
  exact he
 | panicked ch=>exact he
 | outgrown=>exact he
theorem Wj {r:Id→Id}{m:List Id}{pre:List AD}{i:Id}{o:AD}(hp:Re h r m pre) (hl:m.length=pre.length) (hi:h i=some (o.Az r)):Re h r (m++[i]) (pre++[o]):=by
 intro j i' o' hm ho
 by_cases hj:j<m.length
 ·rw[List.getElem?_append_left hj]at hm
  rw[List.getElem?_append_left (by omega)]at ho
  exact hp j i' o' hm ho
 grind
theorem Ih {a b:AD}:∀{pre post:List AD},Bc pre post→sameKind a b→Bc (pre++[a]) (post++[b])
 | [],[],_,h=>⟨h,trivial⟩
 | _::_,_::_,h,k=>⟨h.1,Ih h.2 k⟩
 | [],_::_,h,_=>h.elim
 | _::_,[],h,_=>h.elim
theorem Pg {i:Id}{r:Unit→RF}{sl:List (Nat×AV)}{Q:Exit→Act→World→Prop}
  (R:AY C F (AQ σ.slots) (AJ σ.heap) g a w) (hi:AJ σ.heap i=some (.rnd r sl)) (hk:YP C.M dst fresh σ i r sl xs K) (hF:∀k,k<32→F (fresh+k)) (hd:∀d,dst=some d→d<C.nt) (hsz:vals.size=xs.length)
  (hargs:∀(j:Nat) x v,xs[j]?=some x→vals[j]?=some v→Ag w (Ar (zone g (AJ σ.heap)) C.X) g (AJ σ.heap) x v):
  ∃l L,g i= .map (some l)∧w.heap[l]?=some (.loop L)∧vals.size=L.params.size∧
  RoundIn Fence.wide 0 C.P l L.fn (D8 L.params vals L.tmps) L.assign L.body w fun
   | .returned v,w''=>∃σ2,K σ2∧σ2.next=σ.next∧∃g2,(∀i q,g i= .map (some q)→g2 i=g i)∧AY C (fun k=>F k∧¬(fresh≤k∧k<fresh+32)) (AQ σ2.slots) (AJ σ2.heap) g2 (a.put dst v) w''
   | .panicked chain,w''=>Q (.panic chain) a w''
   | .outgrown,_=>LetsOut Q:=by
 obtain⟨m,targs,pre,sl0,Qp,ht,rfl,rfl,hlen,hnd,hpre,hK⟩:=hk
 have hsz':vals.size=targs.length:=by rw[hsz];simp
 obtain⟨l,L,hv,hl,_,_,l3,l4,l5,l6,_⟩:=R.heap.objs i _ hi
 refine⟨l,L,hv,hl,by rw[hsz',ht.1,l3],?_⟩
 refine RoundIn.mono (Dj (Qp:=fun res post new=>∃j post0,Qp j post0 new∧res= .v (.d (.bool j.isNone))∧post=post0++[Dm j r sl0]) (targs:=targs) (m:=m++[i]) (pre:=pre++[.rnd r sl0])
  (Run:=fun p=>RoundIn Fence.wide 0 C.P l L.fn (D8 L.params vals L.tmps) L.assign L.body w p) (vals:=vals) (dst:=dst) (Q:=Q) R (fun hpq hp=>hp.mono hpq)
  (fun X g1 kg k1 k2 k3 k4 k6=>by
   obtain⟨l',L',e1,e2,_,hr⟩:=T6 ht (fun j p q h=>(hK j p q h).1) k1 k2 k3 k4 hsz' k6
   have:g1 (.ext pre.length)= .map (some l):=by
    rw[kg,←hlen]
    show g (BF (m++[i]) fresh (.ext m.length))=_
    simp[BF,hv]
   simp_all) (by simp[hlen]) hnd (Wj hpre hlen (by rw[hi];rfl)) (fun res post new h=>by
    obtain⟨j,post0,hq,rfl,rfl⟩:=h
    obtain⟨q1,q2⟩:=(hK j post0 new hq).1
    exact⟨Ih q1 (by cases j<;>trivial),q2⟩) hF hd hargs) ?_
 intro e w' he
 cases e with
 | returned v=>
  obtain⟨res,post,new,⟨j,post0,hq,rfl,rfl⟩,he⟩:=he
  refine⟨_,(hK j post0 new hq).2,rfl,?_⟩
  rw[Cv,CZ]
  exact he
 | panicked ch=>exact he
 | outgrown=>exact he
theorem AY.defer (R:AY C F s h g a w) (hc:C.M.cl=true) {f:Nat}{cs:List FC}{r:D}{ps:Array Value}(hs:s DT= .df f cs rows)
  (hr:EO w (Ar (zone g h) C.X) g f (fill cs r.cells) (.func (.func f) #[] ps)):AY C F (CL s (some DT) (.df f cs (r::rows))) h g {a with defers:=⟨.fn (.func f) ps,#[]⟩::a.defers} w:=by
 have hd:=R.defers
 rw[hc,hs]at hd
 obtain⟨h1,h2⟩:=hd f cs rows rfl
 refine {R with defers:=?_,slots:=fun t=>?_}
 ·rw[hc]
  simp only[CL,if_pos]
  rintro f' cs' rows' e
  cases e
  refine⟨by simp[h1],fun k y d hy hd=>?_⟩
  grind
 ·simp only[CL]
  split
  ·trivial
  ·exact R.slots t
variable {Q:Exit→Act→World→Prop}
theorem Lq {s:List (Nat×AV)}{h:List (Id×AD)}{n:FuncId}
  (R:AY C F (AQ s) (AJ h) g a w) (hk:pY C.M fresh s h n xs) (hF:∀k,fresh≤k→F k) (hsz:vals.size=xs.length)
  (hargs:∀(j:Nat) x v,xs[j]?=some x→vals[j]?=some v→Ag w (Ar (zone g (AJ h)) C.X) g (AJ h) x v)
  (hP:∀v0 s h nx a w,C.M.pn v0 s h nx→Rel C (fun n=>nx≤n) (AQ s) (AJ h) a w→Q (.panic [{v:=v0,recovered:=false}]) a w):
  (∃fn c,C.P.funcs[n]?=some fn∧fn.body=some c∧(fn.name== "runtime.NumGoroutine")=false)∧
  Calls C.P n vals w fun
   | .returned _,_=>False
   | .panicked chain,w''=>Q (.panic chain) a w''
   | .outgrown,_=>LetsOut Q:=by
 obtain⟨m,targs,pre,v0,post,new,ht,rfl,hlen,hnd,hpre,hkd,hnew,hpn⟩:=hk
 refine⟨ht.1,?_⟩
 have core:=Dj (C:=C) (Qp:=fun r p q=>r= .u∧p=post∧q=new) (Run:=fun p=>Calls C.P n vals w fun e w'=>∃v,e= .panicked [{v:=v0,recovered:=false}]∧p (.returned v) w') (vals:=vals) (dst:=none) (Q:=fun _ _ _=>False) (a:=a) (fresh:=fresh) R
  (fun hpq hp=>hp.mono fun e w' ⟨v,h1,h2⟩=>⟨v,h1,hpq _ _ h2⟩)
  (fun X g1 _ k1 k2 k3 k4 k6=>(ht.2 w X g1 vals k1 k2 k3 k4 (by rw[hsz];simp) k6).mono (by grind))
  hlen hnd hpre (by simp_all) (fun k _=>hF _ (by omega)) (fun d hd=>by cases hd) hargs
 refine core.mono ?_
 rintro e w' ⟨v,rfl,he⟩
 obtain⟨res,p,q,⟨rfl,rfl,rfl⟩,g2,_,R2⟩:=he
 exact hP _ _ _ _ _ _ hpn ⟨g2,by rw[CZ];exact R2.Ae fun n hn=>⟨hF n (by omega),by omega⟩⟩
theorem B3 (hti:Ax C.P ti) (h1:BG ti) {ops:Array Oper}{base:Nat}{K:St→Prop}{Q:Exit→Act→World→Prop}
  (hQ:∀σ a w,K σ→Bq C σ a w→Q .normal a w) (hP:∀v0 s h nx a w,C.M.pn v0 s h nx→Rel C (fun n=>nx≤n) (AQ s) (AJ h) a w→Q (.panic [{v:=v0,recovered:=false}]) a w):∀(l:List Oper) (i:Nat) (σ:St) (a:Act) (w:World),ops.toList.drop i=l→
   B8 C.M ti C.nt ops base l i σ K→Rel C (fun n=>base+32*i≤n) (AQ σ.slots) (AJ σ.heap) a w→wpOpsIn (BK C.ro) 0 C.P ops Q (List.range' i l.length) a w
 | [],i,σ,a,w,_,hk,R=>hQ _ a w hk R
 | o::r,i,σ,a,w,hl,hk,R=>by
  have hi:ops[i]?=some o:=by
   have:=congrArg (fun l=>l[0]?) hl
   simpa using this
  have hr:ops.toList.drop (i+1)=r:=by
   have:=congrArg List.tail hl
   simpa using this
  simp only[List.length_cons,List.range'_succ]
  rw[wpOpsIn_cons]
  unfold wpOpIn
  rw[hi]
  simp only[]
  obtain⟨σ',hh,R',⟨hw,hk⟩ | ⟨hw,hk⟩⟩:=Nn R hk
  ·rw[if_pos hw]
   have hk:(match Hh o with
    | some x=>Pe C.M ti x (base+32*i) σ' fun σ2=>B8 C.M ti C.nt ops base r (i+1) σ2 K
    | none=>Lm C.M ti C.nt o (base+32*i) σ' fun σ2=>B8 C.M ti C.nt ops base r (i+1) σ2 K):=hk
   cases hdc:Hh o with
   | some x=>
    rw[hdc]at hk
    obtain⟨c,ho,hdst,hcal,hargs⟩:=Rh hdc
    obtain⟨σ1,hwk,hnx,f,cs,rows,r',hop,hdt,hcl,hk⟩:=(C.M.lock_iff _).1 hk
    obtain⟨g,R2⟩:=hwk C a w R'
    have hf:=AI ti 0 x R2 (s:=AQ σ1.slots) (fun _ _=>rfl)
    rw[hop]at hf
    obtain⟨ps,hfv,hlen,hbx⟩:=hf
    refine⟨fun f _=>CM _ f,?_⟩
    rw[(C.hcl hcl).2]
    have hrun:(o.semAt (BK none).round a.eval).run C.P w= .ok (.defer ⟨.fn (.func f) ps.toArray,#[]⟩) w:=by
     show (execOp a.eval o).run C.P w=_
     simp[execOp,ho,resolve,hcal,hfv,Deferred.ofValue,hargs]
    rw[hrun,Oper.uponIn_defer,hdst]
    have R3:=R2.defer hcl hdt (ps:=ps.toArray) ⟨ps,rfl,hlen,hbx⟩
    have:=B3 hti h1 hQ hP r (i+1) _ {a with defers:=⟨.fn (.func f) ps.toArray,#[]⟩::a.defers} w hr hk ⟨g,by
     rw[Cv]
     exact R3.Ae (fun n hn=>by omega)⟩
    rw[(C.hcl hcl).2]at this
    exact this
   | none=>
   rw[hdc]at hk
   obtain⟨hst,hnd,hk⟩:=KE hk
   obtain⟨hd,hk⟩:=HG.1 hk
   split at hk
   ·rename_i e rows hnc
    obtain⟨hs,hk1,hk2⟩:=AA.1 hk
    obtain⟨g,R2⟩:=R'
    obtain⟨c,hrun,hc⟩:=Wi hti R2 hnc hs
    refine IX hnd ?_
    unfold Oper.wp
    rw[hrun]
    have fin:∀b:Bool,B8 C.M ti C.nt ops base r (i+1) ⟨Ck σ'.slots o.dst (.v (.d (.bool b))),σ'.heap,σ'.next⟩ K→wpOpsIn (BK C.ro) 0 C.P ops Q (List.range' (i+1) r.length) (a.put o.dst (.bool b)) w:=by
     intro b hk
     refine B3 hti h1 hQ hP r (i+1) _ _ w hr hk ?_
     rw[Cv]
     exact⟨g,(R2.put hd (v:=.v (.d (.bool b))) (.bool b)).Ae (fun n hn=>by omega)⟩
    by_cases hne:rows=[]
    ·obtain⟨k1,k2⟩:=hk2 hne
     cases c with
     | true=>exact fin e k1
     | false=>have:=fin (C6 e) k2;trivial
    ·rw[hc hne]
     have:=fin (C6 e) (hk1 hne)
     trivial
   have plain:DZ C.M ti o (base+32*i) (AQ σ'.slots) (AJ σ'.heap) (fun out=>B8 C.M ti C.nt ops base r (i+1) ⟨Ck σ'.slots o.dst out.val,Cb σ'.heap out.wr,σ'.next⟩ K)→
     Oper.wpIn (BK C.ro) 0 C.P o a w (wpOpsIn (BK C.ro) 0 C.P ops Q (List.range' (i+1) r.length)) Q:=by
    intro hk
    obtain⟨out,hk,hok⟩:=Ga hti h1 hst.1 hst.2 hk
    refine IX hnd ?_
    refine Oper.wp_mono ?_ (hok _ _ _ a w Q R' (fun _ _=>rfl) (fun _ _=>rfl) (fun k hk=>by omega) hd)
    intro a' w' R2
    refine B3 hti h1 hQ hP r (i+1) _ a' w' hr hk ?_
    rw[Cv,CZ]
    exact R2.Ae (fun n hn=>by omega)
   have ghost:Wg C.M ti o (base+32*i) σ' (fun σ2=>B8 C.M ti C.nt ops base r (i+1) σ2 K)→Oper.wpIn (BK C.ro) 0 C.P o a w (wpOpsIn (BK C.ro) 0 C.P ops Q (List.range' (i+1) r.length)) Q:=by
    rintro⟨σ1,hwk,hnx,hk⟩
    have R2:=hwk C a w R'
    obtain⟨out,hk,hok⟩:=Ga hti h1 hst.1 hst.2 hk
    refine IX hnd ?_
    refine Oper.wp_mono ?_ (hok _ _ _ a w Q R2 (fun _ _=>rfl) (fun _ _=>rfl) (fun k hk=>by omega) hd)
    intro a' w' R3
    refine B3 hti h1 hQ hP r (i+1) _ a' w' hr hk ?_
    rw[Cv,CZ]
    exact R3.Ae (fun n hn=>by omega)
   split at hk
   rotate_left
   ·split at hk
    ·exact plain hk
    ·split at hk
     ·exact ghost ((C.M.lock_iff _).1 hk)
     ·rcases (C.M.lock_iff _).1 hk with hk | hk
      ·exact plain hk
      ·exact ghost hk
   rcases (C.M.lock_iff _).1 hk with hk | hk
   ·exact plain hk
   rcases hk with hk | hk
   rotate_left
   ·unfold vG at hk
    split at hk
    rotate_left
    ·rename_i x ho
     split at hk
     ·rename_i v hv
      split at hk
      ·rename_i t u
       obtain⟨g,R2⟩:=R'
       have hf:=AI ti 0 x R2 (s:=AQ σ'.slots) (fun _ _=>rfl)
       rw[hv]at hf
       have hf:=hf.1
       refine⟨fun f _=>CM _ f,?_⟩
       rw[Oper.semAt_eq _ _ _ hnd]
       have hrun:(execOp a.eval o).run C.P w= .halt (.panic (.iface t u)) w:=by
        have hp:(Instr.panic (.iface t u)).run C.P w= .halt (.panic (.iface t u)) w:=rfl
        simp[execOp,ho,hf,hp]
       rw[hrun,Oper.uponIn_panic]
       exact hP _ _ _ _ _ _ hk ⟨g,R2⟩
      ·exact hk.elim
     ·exact hk.elim
    ·exact hk.elim
    rename_i c ho
    split at hk
    rotate_left
    ·exact hk.elim
    rename_i f hc
    obtain⟨g,R2⟩:=R'
    have hf:=AI ti 0 f R2 (s:=AQ σ'.slots) (fun _ _=>rfl)
    refine⟨fun f _=>CM _ f,?_⟩
    rw[Oper.semAt_eq _ _ _ hnd]
    split at hk
    ·rename_i n cap hop
     rw[hop]at hf
     obtain⟨hfv,hcap⟩:=hf
     obtain⟨xs,hxs,hk⟩:=hk
     obtain⟨h3,h4⟩:=DY (ti:=ti) R2 c.args.toList c.argTypes.toList xs (fun t ht=>rfl) hxs
     obtain⟨⟨fn,body,hfn,hb,hname⟩,hcall⟩:=Lq (Q:=Q) (vals:=c.args.map a.eval++(cap.map (fun i=>B6 (g i) 0)).toArray) R2 hk (fun k hk=>hk) (by simp[h3]) (fun j x v hx hv=>by
      simp only[Array.getElem?_append,Array.size_map,List.getElem?_toArray]at hv
      by_cases hj:j<c.args.size
      ·grind
      ·rw[if_neg hj]at hv
       rw[List.getElem?_append_right (by rw[h3];simpa using hj),h3]at hx
       simp only[List.getElem?_map,Option.map_eq_some_iff,Array.length_toList]at hx hv
       obtain⟨i,hi,rfl⟩:=hx
       obtain⟨i',hi',rfl⟩:=hv
       rw[hi]at hi'
       obtain rfl:i=i':=by simpa using hi'
       obtain⟨b,hb'⟩:=hcap i (List.mem_of_getElem? hi)
       exact⟨⟨b,hb'⟩,rfl⟩) hP
     have hrun:(execOp a.eval o).run C.P w= .ok (.enter n (c.args.map a.eval++(cap.map (fun i=>B6 (g i) 0)).toArray)) w:=by
      have hn':¬fn.name= "runtime.NumGoroutine" :=by simpa using hname
      simp[execOp,ho,resolve,hc,hfv,Deferred.ofValue,invoke,callFunc,hfn,hb,hn']
     rw[hrun,Oper.uponIn_enter]
     refine⟨B2 _,C9 (hcall.mono ?_)⟩
     grind
    ·rename_i n i0 hop
     rw[hop]at hf
     obtain⟨⟨b0,hb0⟩,hfv⟩:=hf
     obtain⟨xs,hxs,hk⟩:=hk
     obtain⟨h3,h4⟩:=DY (ti:=ti) R2 c.args.toList c.argTypes.toList xs (fun t ht=>rfl) hxs
     obtain⟨⟨fn,body,hfn,hb,hname⟩,hcall⟩:=Lq (Q:=Q) (vals:=#[B6 (g i0) 0]++c.args.map a.eval) R2 hk (fun k hk=>hk) (by simp[h3];omega) (fun j x v hx hv=>by
      cases j with
      | zero=>
       rw[Array.getElem?_append_left (by simp)]at hv
       simp at hx hv
       subst hx
       subst hv
       exact⟨⟨b0,hb0⟩,rfl⟩
      | succ j=>
       grind) hP
     have hrun:(execOp a.eval o).run C.P w= .ok (.enter n (#[B6 (g i0) 0]++c.args.map a.eval)) w:=by
      have hn':¬fn.name= "runtime.NumGoroutine" :=by simpa using hname
      simp[execOp,ho,resolve,hc,hfv,Deferred.ofValue,invoke,callFunc,hfn,hb,hn']
     rw[hrun,Oper.uponIn_enter]
     refine⟨B2 _,C9 (hcall.mono ?_)⟩
     grind
    ·exact hk.elim
   unfold OO at hk
   split at hk
   rotate_left
   ·exact hk.elim
   rename_i c ho
   split at hk
   rotate_left
   ·exact hk.elim
   rename_i f hc
   obtain⟨σ1,hwk,hnx,hk⟩:=hk
   obtain⟨g,R2⟩:=hwk C a w R'
   have hF:∀k,k<32→σ1.next≤base+32*i+k:=fun k _=>by omega
   have hf:=AI ti 0 f R2 (s:=AQ σ1.slots) (fun _ _=>rfl)
   have fin:∀(σ2:St) (g2:AO) (v:Value) (w':World),B8 C.M ti C.nt ops base r (i+1) σ2 K→AY C (fun k=>σ1.next≤k∧¬(base+32*i≤k∧k<base+32*i+32)) (AQ σ2.slots) (AJ σ2.heap) g2 (a.put o.dst v) w'→
     wpOpsIn (BK C.ro) 0 C.P ops Q (List.range' (i+1) r.length) (a.put o.dst v) w':=fun σ2 g2 v w' hk2 R3=>
    B3 hti h1 hQ hP r (i+1) σ2 _ w' hr hk2 ⟨g2,R3.Ae (fun n hn=>by omega)⟩
   refine⟨fun f _=>CM _ f,?_⟩
   rw[Oper.semAt_eq _ _ _ hnd]
   split at hk
   ·rename_i n cap hop
    rw[hop]at hf
    obtain⟨hfv,hcap⟩:=hf
    unfold withArgs at hk
    split at hk
    rotate_left
    ·exact hk.elim
    rename_i xs hxs
    obtain⟨h3,h4⟩:=D3 (ti:=ti) R2 c.args.toList c.argTypes.toList xs (fun t ht=>rfl) hxs
    obtain⟨⟨fn,body,hfn,hb,hname⟩,hcall⟩:=Ig (Q:=Q) (vals:=c.args.map a.eval++(cap.map (fun i=>B6 (g i) 0)).toArray) R2 hk hF hd (by simp[h3]) (fun j x v hx hv=>by
     simp only[Array.getElem?_append,Array.size_map,List.getElem?_toArray]at hv
     by_cases hj:j<c.args.size
     ·grind
     ·rw[if_neg hj]at hv
      rw[List.getElem?_append_right (by rw[h3];simpa using hj),h3]at hx
      simp only[List.getElem?_map,Option.map_eq_some_iff,Array.length_toList]at hx hv
      obtain⟨i,hi,rfl⟩:=hx
      obtain⟨i',hi',rfl⟩:=hv
      rw[hi]at hi'
      obtain rfl:i=i':=by simpa using hi'
      obtain⟨b,hb'⟩:=hcap i (List.mem_of_getElem? hi)
      exact⟨⟨b,hb'⟩,rfl⟩)
    have hrun:(execOp a.eval o).run C.P w= .ok (.enter n (c.args.map a.eval++(cap.map (fun i=>B6 (g i) 0)).toArray)) w:=by
     have hn':¬fn.name= "runtime.NumGoroutine" :=by simpa using hname
     simp[execOp,ho,resolve,hc,hfv,Deferred.ofValue,invoke,callFunc,hfn,hb,hn']
    rw[hrun,Oper.uponIn_enter]
    refine⟨B2 _,C9 (hcall.mono ?_)⟩
    grind
   ·rename_i id hop
    rw[hop]at hf
    obtain⟨l0,hg0,hfv⟩:=hf
    unfold withArgs at hk
    split at hk
    rotate_left
    ·exact hk.elim
    rename_i xs hxs
    obtain⟨h3,h4⟩:=D3 (ti:=ti) R2 c.args.toList c.argTypes.toList xs (fun t ht=>rfl) hxs
    split at hk
    rotate_left
    ·exact hk.elim
    rename_i rf sl hid
    obtain⟨l,L,hgl,hL,hps,hround⟩:=Pg (Q:=Q) (vals:=c.args.map a.eval) R2 hid hk hF hd (by simp[h3]) (fun j x v hx hv=>by
     grind)
    rw[hg0]at hgl
    obtain rfl:l0=l:=by cases hgl;rfl
    have hrun:(execOp a.eval o).run C.P w= .ok (.round l0 L.fn (D8 L.params (c.args.map a.eval) L.tmps) L.assign L.body) w:=by
     have:(Instr.yield l0 (c.args.map a.eval)).run C.P w= .ok (.round l0 L.fn (D8 L.params (c.args.map a.eval) L.tmps) L.assign L.body) w:=run_yield (P:=C.P) (args:=c.args.map a.eval) hL hps
     simp only[execOp,ho,resolve,hc,hfv,Deferred.ofValue,invoke,Sem.run_bind,Result.andThen,Sem.run_pure]
     simp_all
    rw[hrun,Oper.uponIn_round]
    refine⟨B2 _,Nl (hround.mono ?_)⟩
    grind
   ·exact hk.elim
  ·rw[if_neg (by simp[hw])]
   obtain⟨hd,hk⟩:=HG.1 hk
   refine⟨fun f _=>CM _ f,?_⟩
   refine B3 hti h1 hQ hP r (i+1) _ _ w hr hk ?_
   obtain⟨g,R'⟩:=R'
   rw[Cv]
   exact⟨g,(R'.put hd (v:=.t []) ⟨#[],rfl,rfl,by simp⟩).Ae (fun n hn=>by omega)⟩
def Fo (C:Cx) (dr:Pf):Prop:=∀(id:Nat) (ops:Array Oper) (σ:St) (K:St→Prop) (Q:Exit→Act→World→Prop) (a:Act) (w:World),
 (∀σ a w,K σ→Bq C σ a w→Q .normal a w)→(∀v0 s h nx a w,C.M.pn v0 s h nx→Rel C (fun n=>nx≤n) (AQ s) (AJ h) a w→Q (.panic [{v:=v0,recovered:=false}]) a w)→dr ops σ K→Bq C σ a w→(Code.region id ops true).wpIn (BK C.ro) 0 C.P Q a w
theorem least {p:Nat→Prop}(h:∃n,p n):∃n,p n∧∀m,p m→n≤m:=by
 obtain⟨n,hn⟩:=h
 induction n using Nat.strongRecOn with
 | _ n ih=>
  grind
theorem Rk {g:Operand}{l n:Nat}{Ch:Array Value}{fn:Func}{body:Code}(hf:a.eval g= .func (.func n) #[] Ch) (hfn:P.funcs[n]?=some fn) (hb:fn.body=some body) (hname:(fn.name== "runtime.NumGoroutine")=false):
  ∃d,(resolve a.eval (rangeCall g l) 0).run P w= .ok d w∧(invoke d.target d.args).run P w= .ok (.enter n (#[.func (.yield l) #[] #[]]++Ch)) w:=by
 have hn':¬fn.name= "runtime.NumGoroutine" :=by simpa using hname
 have he:a.eval (.const (.func (.yield l) #[] #[]))= .func (.yield l) #[] #[]:=rfl
 refine⟨⟨.fn (.func n) Ch,#[.func (.yield l) #[] #[]]⟩,?_,?_⟩
 ·simp[resolve,rangeCall,hf,he,Deferred.ofValue]
 ·simp[invoke,callFunc,hfn,hb,hn']
theorem Rl (R:AY C F s h g a w) {n:Nat}(hn:F n) (ps:Array Tmp) (assign body:Code) (sl:List (Nat×AV)) (hsl:∀t,AQ sl t= .u∨AQ sl t=s t) (fn:FuncId) (hcl:C.M.cl=false):
  ∃l mark w1 C2 g2,(Instr.enterLoop fn a.tmps ps assign body (BK C.ro).round).run C.P w= .ok (l,mark) w1∧DW C C2∧C2.w0.heap.size≤l∧g2 (.loc n)= .map (some l)∧
   AY C2 (fun k=>F k∧k≠n) s (AK h (.loc n) (.rnd (fun _=>⟨ps,assign,body,C.nt⟩) sl)) g2 {a with defers:=mark++a.defers} w1∧(∀v,A0 w1 (Ar (zone g2 (AK h (.loc n) (.rnd (fun _=>⟨ps,assign,body,C.nt⟩) sl))) C2.X) g2 (AK h (.loc n) (.rnd (fun _=>⟨ps,assign,body,C.nt⟩) sl)) (.yl (.loc n)) v↔v= .func (.yield l) #[] #[])∧
   (∀i,i≠ .loc n→g2 i=g i):=by
 rw[Nk]
 have hX:∀b o,C.X b o→b<w.heap.size:=fun b o hx=>Nat.lt_of_lt_of_le (R.xs b o hx) R.frame.size
 have slr:∀{Z:Ai} {w:World} {g:AO} {h:Heap} {v:Value} {t:Nat},Aj w Z g h (s t) v→Aj w Z g h (AQ sl t) v:=by
  intro Z w g h v t hr
  rcases hsl t with e | e
  ·rw[e];trivial
  ·rw[e];exact hr
 have yl:∀{g2:AO} {w:World} {Z:Ai} {h:Heap} {l:Nat} (_:g2 (.loc n)= .map (some l)) (v:Value),A0 w Z g2 h (.yl (.loc n)) v↔v= .func (.yield l) #[] #[]:=by
  intro g2 w Z h l e v
  constructor
  ·rintro⟨l',h1,h2⟩
   simp_all
  ·intro h;exact⟨l,e,h⟩
 cases hro:C.ro with
 | none=>
  let wD:=w.alloc (.deferred (some []))
  let X2:Ai:=fun b o=>C.X b o∨b=w.heap.size
  have hsz:wD.heap.size=w.heap.size+1:=by simp[wD]
  have hinv:C.M.I.at wD (Ar (zone g h) X2):=by
   obtain⟨i1,i2⟩:=R.inv
   refine⟨C.M.I.same (fun b hb=>Below.heap_alloc w _ b (i2 b hb).1) i1,fun b hb=>⟨by grind,?_⟩⟩
   rintro o (hz | hz | hz)
   ·exact (i2 b hb).2 o (.inl hz)
   ·exact (i2 b hb).2 o (.inr hz)
   grind
  have hD:∀r∈w.heap.size::C.D,wD.heap[r]?=some (.deferred (some []))∧∀o,¬zone g h r o:=by
   intro r hr
   rcases List.mem_cons.1 hr with rfl | hr
   ·refine⟨heap_alloc_new w _,?_⟩
    rintro o ⟨i,ob,hi,hz⟩
    have:=(R.heap.objs i ob hi).lt hz.GH
    omega
   ·obtain⟨k1,k2⟩:=C.hD r hr
    obtain⟨k3,k4⟩:=R.kept k1 k2
    exact⟨(Below.heap_alloc w _ r (Array.getElem?_eq_some_iff.1 k3).1).trans k3,k4⟩
  have hDn:(w.heap.size::C.D).Nodup:=by
   refine List.nodup_cons.2 ⟨fun hm=>?_,C.hDn⟩
   have:=(Array.getElem?_eq_some_iff.1 (C.hD _ hm).1).1
   have:=R.frame.size
   omega
  let C2:Cx:={M:=C.M,nt:=C.nt,w0:=wD,Z0:=zone g h,X:=X2,g0:=g,hinv:=hinv,ro:=C.ro,D:=w.heap.size::C.D,hro:=fun l hl=>(by simp_all),hD:=hD,hDn:=hDn,hcl:=C.hcl}
  have A:DV (fun _=>False) w wD:=⟨rfl,rfl,rfl,by omega,fun b hb _=>Below.heap_alloc w _ b hb⟩
  have R2:AY C2 F s h g {a with defers:=C5 w.heap.size::a.defers} wD:=by
   refine R.Q3 A rfl rfl (fun i o hi=>.inl hi) (fun b o hb=>hb.elim) (fun i ob b hi hb hB=>hB) ?_ ?_ ?_ rfl (fun b o hz=>hz) (fun j=>.refl _) rfl ⟨fun _=>by show _=C5 w.heap.size::C.D.map C5;rw[←R.marks hcl],fun h=>by rw[hcl]at h;cases h⟩ (fun k hk=>(R.free k hk).2)
   ·rintro b o (hx | hx)
    ·exact .inl (.inr hx)
    simp_all
   ·grind
   ·rintro i ob b o hi hb (hx | hx)
    ·exact R.heap.apart i ob b o hi hb hx
    ·have:=(R.heap.objs i ob hi).lt hb;omega
  have L:DW C C2:=by
   refine⟨rfl,rfl,rfl,fun b o hx=>.inl hx,?_,fun b o hz=>?_,fun j=>R.ext j,fun hn=>absurd hro hn,[w.heap.size],rfl,?_⟩
   ·exact R.frame.then ⟨rfl,rfl,rfl,(by grind),fun b hb _=>Below.heap_alloc w _ b hb,fun b o u hu _=>A.cell hu (fun h=>h)⟩ (Z':=fun _ _=>False) (fun _ _ h=>h.elim)
   ·obtain⟨i,ob,hi,h1⟩:=hz
    exact R.within i ob b o hi h1
   ·intro r hr
    simp at hr
    subst hr
    exact⟨R.frame.size,fun o=>.inr rfl⟩
  have R3:=R2.Tm hn {state:=.ready,pending:=none,fn:=fn,tmps:=a.tmps,params:=ps,assign:=assign,body:=body,defers:=w.heap.size} (fun _=>⟨ps,assign,body,C.nt⟩) sl rfl rfl rfl rfl rfl R.size (fun t=>slr (R2.slots t))
  refine⟨w.heap.size+1,[C5 w.heap.size],_,C2,_,run_enterLoop_outer fn a.tmps ps assign body,L,(by grind),?_,R3,yl ?_,fun i hi=>by simp[Ao,hi]⟩
  ·simp[Ao,hsz]
  ·simp[Ao,hsz]
 | some l0=>
  obtain⟨⟨L0,hL0⟩,hz0⟩:=C.hro l0 hro
  obtain⟨k1,k2⟩:=R.kept hL0 hz0
  have R3:=R.Tm hn {state:=.ready,pending:=none,fn:=fn,tmps:=a.tmps,params:=ps,assign:=assign,body:=body,defers:=L0.defers} (fun _=>⟨ps,assign,body,C.nt⟩) sl rfl rfl rfl rfl rfl R.size (fun t=>slr (R.slots t))
  refine⟨w.heap.size,[],_,C,_,?_,DW.refl C,R.frame.size,?_,R3,yl ?_,fun i hi=>by simp[Ao,hi]⟩
  ·unfold Instr.enterLoop
   simp only[Sem.run_bind,run_getLoop k1,run_newObj_alloc,Result.andThen,Sem.run_pure,pure_bind]
  ·simp[Ao]
  ·simp[Ao]
theorem Rn (R:AY C F s h g a w) {i:Id}{ob:AD}{l:Nat}{L:Loop}(hi:h i=some ob) (hob:∀o,BR (g i) ob l o) (hl:w.heap[l]?=some (.loop L)) (hnew:C.w0.heap.size≤l) (o':Obj):
  ∃C2,DW C C2∧AY C2 F s (AK h i .gone) g a (w.putObj l o'):=by
 have hlt:l<w.heap.size:=(Array.getElem?_eq_some_iff.1 hl).1
 have hX:∀b o,C.X b o→b<w.heap.size:=fun b o hx=>Nat.lt_of_lt_of_le (R.xs b o hx) R.frame.size
 have hO:∀b,Ek (g i) ob b→b=l∨True:=fun _ _=>.inr trivial
 have hgo:∀j o,AK h i .gone j=some o→(h j=some o∧j≠i)∨o= .gone:=by
  intro j o hj
  by_cases e:j=i
  ·subst e;simp[AK]at hj;exact .inr hj.symm
  ·simp[AK,e]at hj;exact .inl ⟨hj,e⟩
 have zsub:∀b o,zone g (AK h i .gone) b o→zone g h b o∧b≠l:=by
  rintro b o ⟨j,ob',hj,hz⟩
  rcases hgo j ob' hj with⟨h1,h2⟩ | rfl
  ·refine⟨⟨j,ob',h1,hz⟩,?_⟩
   rintro rfl
   exact h2 (R.heap.sep j i ob' ob b h1 hi hz.GH (hob o).GH)
  ·exact hz.elim
 have kept:∀{b:Nat} {o:Obj},C.w0.heap[b]?=some o→(∀p,¬C.Z0 b p)→(w.putObj l o').heap[b]?=some o∧∀p,¬zone g (AK h i .gone) b p:=by
  intro b o hb hz
  obtain⟨k1,k2⟩:=R.kept hb hz
  have:b<C.w0.heap.size:=(Array.getElem?_eq_some_iff.1 hb).1
  exact⟨(World.putObj_heap_other (by omega)).trans k1,fun p hp=>k2 p (zsub b p hp).1⟩
 have hinv:C.M.I.at (w.putObj l o') (Ar (zone g (AK h i .gone)) C.X):=by
  obtain⟨i1,i2⟩:=R.inv
  have ne:∀b,C.M.I.blocks b→b≠l:=by
   rintro b hb rfl
   exact (i2 b hb).2 0 (.inl ⟨i,ob,hi,hob 0⟩)
  refine⟨C.M.I.same (fun b hb=>World.putObj_heap_other (ne b hb)) i1,fun b hb=>⟨by simpa using (i2 b hb).1,fun o hz=>(i2 b hb).2 o (hz.imp (fun h=>(zsub b o h).1) id)⟩⟩
 have hro:∀l0,C.ro=some l0→(∃L0,(w.putObj l o').heap[l0]?=some (.loop L0))∧∀p,¬zone g (AK h i .gone) l0 p:=by
  intro l0 hl0
  obtain⟨⟨L0,k1⟩,k2⟩:=C.hro l0 hl0
  simp_all
 let C2:Cx:={M:=C.M,nt:=C.nt,w0:=w.putObj l o',Z0:=zone g (AK h i .gone),X:=C.X,g0:=g,hinv:=hinv,ro:=C.ro,D:=C.D,hro:=hro,hD:=fun r hr=>kept (C.hD r hr).1 (C.hD r hr).2,hDn:=C.hDn,hcl:=C.hcl}
 have A:DV (fun b=>b=l) w (w.putObj l o'):=⟨rfl,rfl,rfl,by simp,fun b _ hb=>World.putObj_heap_other hb⟩
 refine⟨C2,⟨rfl,rfl,rfl,fun _ _ h=>h,?_,fun b o hz=>?_,fun j=>R.ext j,fun _=>rfl,[],rfl,by simp⟩,?_⟩
 ·refine R.frame.then (Z':=fun b _=>b=l) ⟨rfl,rfl,rfl,Nat.le_of_eq World.putObj_size.symm,fun b _ hb=>World.putObj_heap_other (fun e=>hb 0 e),fun b o u hu hb=>A.cell hu hb⟩ ?_
  simp_all
 ·obtain⟨j,ob',hj,h1⟩:=(zsub b o hz).1
  exact R.within j ob' b o hj h1
 ·refine R.Q3 A rfl rfl (fun j o hj=>(hgo j o hj).imp (·.1) id) ?_ ?_ (fun b o hx=>.inl (.inr hx)) (fun b o hx=>by simpa using hX b o hx) ?_ rfl (fun b o hz=>hz) (fun j=>.refl _) rfl ⟨R.marks,fun _=>rfl⟩ (fun k hk=>?_)
  ·rintro b o rfl;exact .inl ⟨i,ob,hi,hob o⟩
  ·rintro j ob' b hj hb rfl
   obtain⟨p,hp⟩:=hb.zone
   exact (zsub b p ⟨j,ob',hj,hp⟩).2 rfl
  ·intro j ob' b o hj hb hx
   rcases hgo j ob' hj with⟨h1,_⟩ | rfl
   ·exact R.heap.apart j ob' b o h1 hb hx
   ·exact hb.elim
  ·have:=(R.free k hk).2
   have hne:Id.loc k≠i:=by grind
   simp[AK,hne,this]
theorem Ro {K:Cm→St→Prop}{gop:Operand}{ps:Array Tmp}{assign body:Code}(hk:T9 C.M ti C.nt gop ps assign body σ K) (R:Bq C σ a w) (hcl:C.M.cl=false):
  (Code.rangeFunc gop ps assign body).wpIn (BK C.ro) 0 C.P (Q7 C K) a w:=by
 obtain⟨σ1,hwk,hk⟩:=hk
 obtain⟨g,R1⟩:=hwk C a w R
 have hf:=AI ti 0 gop R1 (s:=AQ σ1.slots) (fun _ _=>rfl)
 split at hk
 rotate_left
 ·exact hk.elim
 rename_i n cap hop
 rw[hop]at hf
 obtain⟨hfv,hcap⟩:=hf
 obtain⟨sl,hsl,hk⟩:=hk
 refine wpIn_rangeFunc fun fn _=>?_
 obtain⟨l,mark,w1,C2,g2,hent,hle,hlnew,hgl,R2,hyl,hg2⟩:=Rl R1 (n:=σ1.next) (Nat.le_refl _) ps assign body sl hsl fn hcl
 have hcapne:∀i∈cap,i≠ .loc σ1.next:=by
  rintro i hi rfl
  obtain⟨b,hb⟩:=hcap _ hi
  rw[(R1.free σ1.next (Nat.le_refl _)).1]at hb
  simp[undef]at hb
 rw[←hle.M]at hk
 have R2':AY C2 (fun k=>σ1.next≤k∧k≠σ1.next) (AQ σ1.slots) (AJ (Cj σ1.heap (.loc σ1.next) (.rnd (fun _=>⟨ps,assign,body,C.nt⟩) sl))) g2 {a with defers:=mark++a.defers} w1:=by
  rw[CD];exact R2
 have hsound:=Ig (C:=C2) (Q:=Q7 C K) (vals:=#[.func (.yield l) #[] #[]]++(cap.map (fun i=>B6 (g i) 0)).toArray) (σ:=⟨σ1.slots,Cj σ1.heap (.loc σ1.next) (.rnd (fun _=>⟨ps,assign,body,C.nt⟩) sl),σ1.next+64⟩) R2' hk (fun k hk=>⟨by omega,by omega⟩) (by simp) (by simp[Nat.add_comm]) (fun j x v hx hv=>by
  match j with
  | 0=>
   simp at hx hv
   subst hx;subst hv
   have:=(hyl (.func (.yield l) #[] #[])).2 rfl
   trivial
  | j+1=>
   simp only[List.getElem?_cons_succ,List.getElem?_map,Option.map_eq_some_iff]at hx
   obtain⟨i,hi,rfl⟩:=hx
   rw[Array.getElem?_append_right (by simp)]at hv
   simp only[List.size_toArray,List.length_cons,List.length_nil,Nat.zero_add,Nat.add_sub_cancel,List.getElem?_toArray,List.getElem?_map,Option.map_eq_some_iff]at hv
   obtain⟨i',hi',rfl⟩:=hv
   rw[hi]at hi'
   obtain rfl:i=i':=by simpa using hi'
   obtain⟨b,hb⟩:=hcap i (List.mem_of_getElem? hi)
   have e:=hg2 i (hcapne i (List.mem_of_getElem? hi))
   exact⟨⟨b,by rw[e];exact hb⟩,by rw[e]⟩)
 obtain⟨⟨fnc,cbody,hfn,hb,hname⟩,hcall⟩:=hsound
 have hP:C2.P=C.P:=by show C2.M.P=C.M.P;rw[hle.M]
 rw[hP]at hfn hcall
 obtain⟨d,hres,hinv⟩:=Rk (P:=C.P) (w:=w1) (l:=l) hfv hfn hb hname
 refine⟨l,mark,w1,d,w1,n,_,w1,hent,hres,fun f _=>CM _ f,hinv,fun h=>absurd (B2 C.ro h) (by omega),C9 (hcall.mono ?_)⟩
 intro e w3 he
 cases e with
 | panicked ch=>exact he
 | outgrown=>exact he
 | returned v=>
  obtain⟨σ2,hk2,hnx,g3,hg3,R3⟩:=he
  have hg3l:g3 (.loc σ1.next)= .map (some l):=by simp_all
  have ha:(({a with defers:=mark++a.defers}:Act).put none v)={a with defers:=mark++a.defers}:=rfl
  rw[ha]at R3
  have leave:∀(ob:AD) (L:Loop),AJ σ2.heap (.loc σ1.next)=some ob→(∀b o,BR (g3 (.loc σ1.next)) ob b o↔BX (g3 (.loc σ1.next)) b)→w3.heap[l]?=some (.loop L)→L.state≠ .busy→
    ∃C3 w4,DW C C3∧(Instr.endLoop l).run C.P w3= .ok L.pending w4∧Bq C3 ⟨σ2.slots,Cj σ2.heap (.loc σ1.next) .gone,σ2.next⟩ {a with defers:=mark++a.defers} w4:=by
   intro ob L ho hz hl hb
   obtain⟨C3,hle3,R4⟩:=Rn R3 ho (l:=l) (L:=L) (fun o=>(hz l o).2 (by rw[hg3l];exact .inl rfl)) hl hlnew (.loop {L with state:=.exhausted})
   refine⟨C3,_,hle.trans hle3,run_endLoop hl hb,g3,?_⟩
   rw[CD]
   refine R4.Ae fun k hk=>?_
   grind
  show rangePost _ _ _ _ _ _ _ _
  unfold rangePost
  simp only[]
  split at hk2
  ·rename_i r2 sl2 ho
   obtain⟨l',L,e1,e2,e3,e4,_⟩:=R3.heap.objs _ _ ho
   rw[hg3l]at e1
   cases e1
   obtain⟨C3,w4,k1,k2,k3⟩:=leave _ L ho (fun _ _=>Iff.rfl) e2 (by rw[e3];simp)
   exact⟨_,w4,k2,by rw[e4];exact⟨C3,k1,_,hk2,k3⟩⟩
  ·rename_i j ho
   obtain⟨l',L,e1,e2,e3,e4⟩:=R3.heap.objs _ _ ho
   rw[hg3l]at e1
   cases e1
   obtain⟨C3,w4,k1,k2,k3⟩:=leave _ L ho (fun _ _=>Iff.rfl) e2 (by rw[e3];simp)
   refine⟨_,w4,k2,?_⟩
   rw[e4]
   cases j with
   | none=>exact wpIn_ret ⟨C3,k1,_,hk2,k3⟩
   | some id=>exact wpIn_exit ⟨C3,k1,_,hk2,k3⟩
  ·exact hk2.elim
end
end
def nP (F:Fence) (n:Nat) (P:Program) (c:Code) (Q:Exit→Act→World→Prop) (a:Act) (w:World):Prop:=
 ∃(J:Act→World→Prop) (μ:Act→World→Nat),J a w∧∀a w,J a w→c.wpIn F n P (Exit.then (fun a' w'=>J a' w'∧μ a' w'<μ a w) Q) a w
def Ks (F:Fence) (n:Nat) (P:Program) (c:Code) (Q:Exit→Act→World→Prop):Nat→Act→World→Prop
 | 0,a,w=>nP F n P c Q a w
 | m+1,a,w=>c.wpIn F n P (Exit.then (Ks F n P c Q m) Q) a w
theorem Ii {F:Fence}{n:Nat}{P:Program}{Q:Exit→Act→World→Prop}{a:Act}{w:World}{c:Code}(m:Nat) (h:Ks F n P c Q m a w):(Code.loop c).wpIn F n P Q a w:=by
 intro b k cs hro hb hr
 have base:∀(J:Act→World→Prop) (μ:Act→World→Nat),(∀a w,J a w→c.wpIn F n P (Exit.then (fun a' w'=>J a' w'∧μ a' w'<μ a w) Q) a w)→∀j a w,μ a w=j→J a w→
   ∃e a' w',Q e a' w'∧ArrivesIn (Machine.fenced P F) P (lone (b.atR a (.code c::.inLoop c::k)) cs w) b k cs e a' w':=by
  intro J μ round j
  induction j using Nat.strongRecOn with
  | _ j ih=>
   intro a w hn hI
   obtain⟨e,a₁,w₁,hq,harr⟩:=round a w hI b (.inLoop c::k) cs hro hb hr
   cases e with
   | normal=>
    obtain⟨hI₁,hlt⟩:=hq
    obtain⟨e₂,a₂,w₂,hq₂,harr₂⟩:=ih (μ a₁ w₁) (hn▸hlt) a₁ w₁ rfl hI₁
    exact⟨e₂,a₂,w₂,hq₂,.of_steps (StepsIn.trans harr (.one (fenced_calm hb hr rfl) stepR_inLoop)) harr₂⟩
   | exit id=>exact⟨_,a₁,w₁,hq,.pass (x:=.inLoop c) rfl (fun _ _=>.inl (by simp)) harr⟩
   | goto l=>exact⟨_,a₁,w₁,hq,.pass (x:=.inLoop c) rfl (fun _ _=>.inl (by simp)) harr⟩
   | ret=>exact⟨_,a₁,w₁,hq,.pass (x:=.inLoop c) rfl (fun _ _=>.inl (by simp)) harr⟩
   | panic ch=>exact⟨_,a₁,w₁,hq,.pass (x:=.inLoop c) rfl (fun _ _=>.inl (by simp)) harr⟩
   | outgrown=>exact⟨_,a₁,w₁,hq,.pass (x:=.inLoop c) rfl (fun _ _=>.inl (by simp)) harr⟩
 have key:∀m a w,Ks F n P c Q m a w→
   ∃e a' w',Q e a' w'∧ArrivesIn (Machine.fenced P F) P (lone (b.atR a (.code c::.inLoop c::k)) cs w) b k cs e a' w':=by
  intro m
  induction m with
  | zero=>
   rintro a w ⟨J,μ,h0,hr⟩
   exact base J μ hr _ a w rfl h0
  | succ m ih=>
   intro a w h
   obtain⟨e,a₁,w₁,hq,harr⟩:=h b (.inLoop c::k) cs hro hb hr
   cases e with
   | normal=>
    obtain⟨e₂,a₂,w₂,hq₂,harr₂⟩:=ih a₁ w₁ hq
    exact⟨e₂,a₂,w₂,hq₂,.of_steps (StepsIn.trans harr (.one (fenced_calm hb hr rfl) stepR_inLoop)) harr₂⟩
   | exit id=>exact⟨_,a₁,w₁,hq,.pass (x:=.inLoop c) rfl (fun _ _=>.inl (by simp)) harr⟩
   | goto l=>exact⟨_,a₁,w₁,hq,.pass (x:=.inLoop c) rfl (fun _ _=>.inl (by simp)) harr⟩
   | ret=>exact⟨_,a₁,w₁,hq,.pass (x:=.inLoop c) rfl (fun _ _=>.inl (by simp)) harr⟩
   | panic ch=>exact⟨_,a₁,w₁,hq,.pass (x:=.inLoop c) rfl (fun _ _=>.inl (by simp)) harr⟩
   | outgrown=>exact⟨_,a₁,w₁,hq,.pass (x:=.inLoop c) rfl (fun _ _=>.inl (by simp)) harr⟩
 obtain⟨e,a',w',hq,harr⟩:=key m a w h
 exact⟨e,a',w',hq,.of_steps (.one (fenced_calm hb hr rfl) stepR_loop) harr⟩
def Dv:Code→Bool
 | .seq a b=>Dv a&&Dv b
 | .cond _ a b=>Dv a&&Dv b
 | .block _ c=>Dv c
 | .loop c=>Dv c
 | .rangeFunc ..=>false
 | _=>true
theorem Bb {ti:Types}{dr:Pf}{M:Au}{nt:Nat}{ro:Option Nat}(hti:Ax M.P ti) (h1:BG ti) (hdr:∀C:Cx,C.M=M→C.nt=nt→Fo C dr):∀(c:Code) (σ:St) (K:Cm→St→Prop) (C:Cx) (a:Act) (w:World),C.M=M→C.nt=nt→C.ro=ro→(M.cl=true→Dv c=true)→
  exec M ti nt dr c σ K→Bq C σ a w→c.wpIn (BK ro) 0 M.P (Q7 C K) a w
 | .skip,σ,K,C,a,w,_,_,_,_,hk,R=>wpIn_skip ⟨C,.refl C,σ,hk,R⟩
 | .region id ops draw,σ,K,C,a,w,hM,hn,hr,hnr,hk,R=>by
  subst hM;subst hn;subst hr
  cases draw with
  | false=>
   refine wpIn_region ?_
   have:=B3 (Q:=Q7 C K) hti h1 (fun σ a w hk R=>⟨C,.refl C,σ,hk,R⟩) (fun v0 s h nx a w hpn R=>⟨C,.refl C,v0,s,h,nx,hpn,rfl,R⟩) ops.toList 0 σ a w rfl hk (R.Ae (fun n hn=>by omega))
   simpa [List.range_eq_range'] using this
  | true=>exact hdr C rfl rfl id ops σ _ (Q7 C K) a w (fun σ a w hk R=>⟨C,.refl C,σ,hk,R⟩) (fun v0 s h nx a w hpn R=>⟨C,.refl C,v0,s,h,nx,hpn,rfl,R⟩) hk R
 | .seq x y,σ,K,C,a,w,hM,hn,hr,hnr,hk,R=>by
  rcases (M.lock_iff _).1 hk with hk | ⟨I,hk,hb⟩
  ·refine wpIn_seq (wpIn_mono (Bb hti h1 hdr x σ _ C a w hM hn hr (fun h=>(Bool.and_eq_true_iff.1 (hnr h)).1) hk R) ?_)
   intro e a' w' hq
   cases e with
   | normal=>
    obtain⟨C',hle,σ',hk',R'⟩:=hq
    exact wpIn_mono (Bb hti h1 hdr y σ' K C' a' w' (hle.M.trans hM) (hle.nt.trans hn) (hle.ro.trans hr) (fun h=>(Bool.and_eq_true_iff.1 (hnr h)).2) hk' R') fun e a w q=>q.mono hle
   | exit id=>exact hq
   | ret=>exact hq
   | goto l=>exact hq
   | panic ch=>exact hq
   | outgrown=>exact hq
  ·refine wpIn_seq (wpIn_mono (Bb hti h1 hdr x σ _ C a w hM hn hr (fun h=>(Bool.and_eq_true_iff.1 (hnr h)).1) hk R) ?_)
   intro e a' w' hq
   cases e with
   | normal=>
    obtain⟨C',hle,σ',⟨σ2,hw,hi⟩,R'⟩:=hq
    exact wpIn_mono (Bb hti h1 hdr y σ2 K C' a' w' (hle.M.trans hM) (hle.nt.trans hn) (hle.ro.trans hr) (fun h=>(Bool.and_eq_true_iff.1 (hnr h)).2) (hb σ2 hi) (hw _ _ _ R')) fun e a w q=>q.mono hle
   | exit id=>exact hq
   | ret=>exact hq
   | goto l=>exact hq
   | panic ch=>exact hq
   | outgrown=>exact hq
 | .cond c x y,σ,K,C,a,w,hM,hn,hr,hnr,hk,R=>by
  obtain⟨q,hq,hk⟩:=N6.1 hk
  have hc:a.eval c= .bool q:=by
   obtain⟨g,R'⟩:=R
   have:=AI ti 0 c R' (s:=AQ σ.slots) (fun _ _=>rfl)
   rw[hq]at this
   exact PQ this
  refine wpIn_cond hc ?_
  cases q with
  | true=>exact Bb hti h1 hdr x σ K C a w hM hn hr (fun h=>(Bool.and_eq_true_iff.1 (hnr h)).1) hk R
  | false=>exact Bb hti h1 hdr y σ K C a w hM hn hr (fun h=>(Bool.and_eq_true_iff.1 (hnr h)).2) hk R
 | .block id c,σ,K,C,a,w,hM,hn,hr,hnr,hk,R=>by
  refine wpIn_block (wpIn_mono (Bb hti h1 hdr c σ _ C a w hM hn hr hnr hk R) ?_)
  intro e a' w' hq
  cases e with
  | normal=>exact hq
  | exit id'=>
   obtain⟨C',hle,σ',hk',R'⟩:=hq
   show if id'=id then Q7 C K .normal a' w' else Q7 C K (.exit id') a' w'
   revert hk'
   simp only[]
   cases hb:Nat.beq id' id with
   | true=>
    intro hk'
    rw[if_pos (Nat.eq_of_beq_eq_true hb)]
    exact⟨C',hle,σ',hk',R'⟩
   | false=>
    intro hk'
    rw[if_neg (Nat.ne_of_beq_eq_false hb)]
    exact⟨C',hle,σ',hk',R'⟩
  | ret=>exact hq
  | goto l=>exact hq
  | panic ch=>exact hq
  | outgrown=>exact hq
 | .loop c,σ,K,C,a,w,hM,hn,hr,hnr,hk,R=>by
  classical
  have lp:∀σ C' a w,DW C C'→Va (fun σ K=>exec M ti nt dr c σ K) σ K→Bq C' σ a w→nP (BK ro) 0 M.P c (Q7 C K) a w:=by
   rintro σ C' a w hle ⟨I,m,⟨σ0,hw,hI⟩,hround⟩ R
   let J:Act→World→Prop:=fun a w=>∃n σ C',DW C C'∧I n σ∧Bq C' σ a w
   let μ:Act→World→Nat:=fun a w=>if h:∃n σ C',DW C C'∧I n σ∧Bq C' σ a w then Classical.choose (least h)else 0
   have hμ:∀a w n σ C',DW C C'→I n σ→Bq C' σ a w→μ a w≤n:=by
    intro a w n σ C' hle hi hr
    have hh:∃n σ C',DW C C'∧I n σ∧Bq C' σ a w:=⟨n,σ,C',hle,hi,hr⟩
    show (if h:∃n σ C',DW C C'∧I n σ∧Bq C' σ a w then Classical.choose (least h)else 0)≤n
    rw[dif_pos hh]
    exact (Classical.choose_spec (least hh)).2 n ⟨σ,C',hle,hi,hr⟩
   refine⟨J,μ,⟨m,σ0,C',hle,hI,hw _ _ _ R⟩,?_⟩
   rintro a w ⟨n0,σ1,C1,hle1,hi0,hr0⟩
   have hh:∃n σ C',DW C C'∧I n σ∧Bq C' σ a w:=⟨n0,σ1,C1,hle1,hi0,hr0⟩
   obtain⟨σ2,C2,hle2,hi,hr2⟩:=(Classical.choose_spec (least hh)).1
   have hμa:μ a w=Classical.choose (least hh):=dif_pos hh
   refine wpIn_mono (Bb hti h1 hdr c σ2 _ C2 a w (hle2.M.trans hM) (hle2.nt.trans hn) (hle2.ro.trans hr) hnr (hround _ σ2 hi) hr2) ?_
   intro e a' w' hq
   cases e with
   | normal=>
    obtain⟨C3,hle3,σ',⟨n',σ3,hlt,hwk,hi3⟩,R'⟩:=hq
    exact⟨⟨n',σ3,C3,hle2.trans hle3,hi3,hwk _ _ _ R'⟩,by
     have:=hμ a' w' n' σ3 C3 (hle2.trans hle3) hi3 (hwk _ _ _ R')
     omega⟩
   | exit id=>exact Q7.mono hle2 hq
   | ret=>exact Q7.mono hle2 hq
   | goto l=>exact hq
   | panic ch=>exact Q7.mono hle2 hq
   | outgrown=>exact hq
  have key:∀n σ C' a w,DW C C'→Kr M (fun σ K=>exec M ti nt dr c σ K) K n σ→Bq C' σ a w→Ks (BK ro) 0 M.P c (Q7 C K) n a w:=by
   intro n
   induction n with
   | zero=>intro σ C' a w hle h R;exact lp σ C' a w hle ((M.lock_iff _).1 h) R
   | succ n ih=>
    intro σ C' a w hle h R
    refine wpIn_mono (Bb hti h1 hdr c σ _ C' a w (hle.M.trans hM) (hle.nt.trans hn) (hle.ro.trans hr) hnr h R) ?_
    intro e a' w' hq
    cases e with
    | normal=>
     obtain⟨C2,hle2,σ',h',R'⟩:=hq
     exact ih σ' C2 a' w' (hle.trans hle2) h' R'
    | exit id=>exact Q7.mono hle hq
    | ret=>exact Q7.mono hle hq
    | goto l=>exact hq
    | panic ch=>exact Q7.mono hle hq
    | outgrown=>exact hq
  rcases (M.lock_iff _).1 hk with hk | ⟨n,hk⟩
  ·exact Ii 0 (lp σ C a w (.refl C) hk R)
  ·exact Ii n (key n σ C a w (.refl C) hk R)
 | .exit id,σ,K,C,a,w,_,_,_,_,hk,R=>wpIn_exit ⟨C,.refl C,σ,hk,R⟩
 | .ret,σ,K,C,a,w,_,_,_,_,hk,R=>wpIn_ret ⟨C,.refl C,σ,hk,R⟩
 | .rangeFunc g ps assign body,σ,K,C,a,w,hM,hn,hr,hnr,hk,R=>by
  subst hM;subst hn;subst hr
  exact Ro ((C.M.lock_iff _).1 hk) R (by cases h:C.M.cl with | false=>rfl | true=>exact absurd (hnr h) (by simp[Dv]))
 | .scope _,_,_,_,_,_,_,_,_,_,hk,_=>hk.elim
 | .label _,_,_,_,_,_,_,_,_,_,hk,_=>hk.elim
 | .goto _,_,_,_,_,_,_,_,_,_,hk,_=>hk.elim
 | .refuse _,_,_,_,_,_,_,_,_,_,hk,_=>hk.elim
end Go.AM
namespace Go.AM
open Go Go.RowKit
def Kc (n:Nat):Id→Bool
 | .loc k=>Nat.blt k n
 | .ext _=>true
def vH (n:Nat):FC→Bool
 | .p i=>Kc n i
 | _=>true
def nQ (n:Nat):CV→Bool
 | .ptr i _=>Kc n i
 | .fn _ cap=>BZ (Kc n) cap
 | .lst i _ _ _=>Kc n i
 | .sl i _=>Kc n i
 | .map i=>Kc n i
 | .ap i _ _ _ _=>Kc n i
 | .ow i=>Kc n i
 | .op i _ _ _=>Kc n i
 | .yl i=>Kc n i
 | .bm _ i=>Kc n i
 | .fz _ cs=>BZ (vH n) cs
 | .fb i=>Kc n i
 | _=>true
def zV (n:Nat):V1→Bool
 | .d _=>true
 | .c x=>nQ n x
 | .agg cs=>BZ (nQ n) cs
def vI (n:Nat):AV→Bool
 | .u=>true
 | .v x=>zV n x
 | .t xs=>BZ (zV n) xs
 | .df _ cs _=>BZ (vH n) cs
def jL (n:Nat):AD→Bool
 | .cells cs=>BZ (nQ n) cs
 | .tok ..=>true
 | .map ..=>true
 | .arr cs1 _ _ _ cs2=>match BZ (nQ n) cs1 with
  | true=>BZ (nQ n) cs2
  | false=>false
 | .tree _ _ _ _ foc=>match foc with
  | some x=>BZ (nQ n) x.2
  | none=>true
 | .pmap _ _ _ _ foc=>match foc with
  | some x=>Kc n x.2
  | none=>true
 | .part ..=>true
 | .fnl _ cs _=>BZ (vH n) cs
 | .gone=>true
 | .rnd _ sl=>BZ (fun x=>vI n x.2) sl
 | .rndX _=>true
theorem Br {α:Type}{f:α→α}{l:List α}(h:∀x∈l,f x=x):l.map f=l:=by
 induction l with
 | nil=>rfl
 | cons x l ih=>simp_all
section
variable {n N:Nat}
def low (n N:Nat):Id→Id
 | .loc k=>if k<n then .loc k else .loc N
 | .ext j=>.ext j
theorem B4 {i:Id}(h:Kc n i=true):low n N i=i:=by
 cases i with
 | ext j=>rfl
 | loc k=>
  have:k<n:=by simpa [Kc] using h
  simp[low,this]
theorem qB {c:FC}(h:vH n c=true):c.Az (low n N)=c:=by
 cases c with
 | p i=>simp only[FC.Az];rw[B4 h]
 | d x=>rfl
 | h=>rfl
theorem Ph {cs:List FC}(h:BZ (vH n) cs=true):cs.map (FC.Az (low n N))=cs:=by
 rw[BD]at h
 exact Br fun i hi=>qB (h i hi)
theorem JS {c:CV}(h:nQ n c=true):c.Az (low n N)=c:=by
 cases c<;>simp only[CV.Az,nQ]at h ⊢
 ·rw[B4 h]
 ·congr 1
  rw[BD]at h
  exact Br fun i hi=>B4 (h i hi)
 ·rw[B4 h]
 ·rw[B4 h]
 ·rw[B4 h]
 ·rw[B4 h]
 ·rw[B4 h]
 ·rw[B4 h]
 ·rw[B4 h]
 ·rw[B4 h]
 ·rw[Ph h]
 ·rw[B4 h]
theorem YS {c:V1}(h:zV n c=true):c.Az (low n N)=c:=by
 cases c<;>simp only[V1.Az,zV]at h ⊢
 ·rw[JS h]
 ·congr 1
  rw[BD]at h
  exact Br fun i hi=>JS (h i hi)
theorem UA {c:AV}(h:vI n c=true):c.Az (low n N)=c:=by
 cases c<;>simp only[AV.Az,vI]at h ⊢
 ·rw[YS h]
 ·congr 1
  rw[BD]at h
  exact Br fun i hi=>YS (h i hi)
 ·rw[Ph h]
theorem jM {c:AD}(h:jL n c=true):c.Az (low n N)=c:=by
 cases c<;>simp only[AD.Az,jL]at h ⊢
 ·congr 1
  rw[BD]at h
  exact Br fun i hi=>JS (h i hi)
 ·split at h
  ·rename_i h1
   rw[BD]at h h1
   rw[Br fun i hi=>JS (h1 i hi),Br fun i hi=>JS (h i hi)]
  ·cases h
 ·congr 1
  split at h
  ·rw[BD]at h
   show some (_,List.map (CV.Az (low n N)) _)=_
   rw[Br (f:=CV.Az (low n N)) fun i hi=>JS (h i hi)]
  ·rfl
 ·congr 1
  split at h
  ·show some (_,low n N _)=_
   rw[B4 h]
  ·rfl
 ·rw[Ph h]
 ·congr 1
  rw[BD]at h
  refine Br fun i hi=>?_
  show (i.1,i.2.Az (low n N))=i
  rw[UA (h i hi)]
end
def Part (σ σ':St):Prop:=
 (∀t,AQ σ'.slots t= .u∨AQ σ'.slots t=AQ σ.slots t)∧(∀i o,AJ σ'.heap i=some o→AJ σ.heap i=some o)∧
 (∀t,vI σ'.next (AQ σ'.slots t)=true)∧(∀i o,AJ σ'.heap i=some o→Kc σ'.next i=true∧jL σ'.next o=true)
theorem Wk {σ σ':St}(h:Part σ σ'):BM σ σ':=by
 obtain⟨hs,hh,hb,ho⟩:=h
 rintro C a w ⟨g,R⟩
 let N:=max σ.next σ'.next
 let r:=low σ'.next N
 let g':AO:=fun i=>g (r i)
 have hN:=R.free N (Nat.le_max_left _ _)
 have hz:∀b o,zone g' (AJ σ'.heap) b o→zone g (AJ σ.heap) b o:=by
  rintro b o ⟨i,ob,hi,h1⟩
  refine⟨i,ob,hh i ob hi,?_⟩
  have:g' i=g i:=by show g (low _ _ i)=g i;rw[B4 (ho i ob hi).1]
  rw[←this];exact h1
 have hzz:∀b o,Ar (zone g' (AJ σ'.heap)) C.X b o→Ar (zone g (AJ σ.heap)) C.X b o:=fun b o hx=>hx.imp (hz b o) id
 have ht:∀i n sz e,AJ σ'.heap i=some (.tok n sz e)→AJ σ.heap (r i)=some (.tok n sz e):=by
  intro i n sz e hi
  rw[show r i=i from B4 (ho i _ hi).1]
  exact hh i _ hi
 have hw:∀i,isLive (AJ σ'.heap i)=true→isLive (AJ σ.heap (r i))=true:=by
  intro i hi
  cases hc:AJ σ'.heap i with
  | none=>rw[hc]at hi;cases hi
  | some o=>
   rw[show r i=i from B4 (ho i _ hc).1,hh i _ hc,←hc]
   exact hi
 have hdf:DQ w (Ar (zone g' (AJ σ'.heap)) C.X) g' C.M.cl (AQ σ'.slots DT) a.defers C.D:=by
  rcases hs DT with e | e
  ·rw[e];exact R.defers.un (by simp)
  ·have:=R.defers
   rw[←e,←UA (N:=N) (hb DT)]at this
   exact DQ.pull (r:=r) hzz (fun _=>rfl) this
 refine⟨g',R.size,hdf,fun t=>?_,⟨fun i o hi=>?_,fun i j oi oj b hi hj bi bj=>?_,fun i oi b o hi bi=>?_⟩,R.frame,fun j=>R.ext j,fun j ob b o hj hz'=>?_,R.xs,fun n hn=>⟨?_,?_⟩⟩
 ·rcases hs t with e | e
  ·rw[e];trivial
  ·have:=R.slots t
   rw[←e,←UA (N:=N) (hb t)]at this
   exact Aj.pull (r:=r) hzz (fun _=>rfl) ht hw this
 ·have h1:=R.heap.objs i o (hh i o hi)
  rw[←jM (N:=N) (ho i o hi).2]at h1
  have:=BJ.pull (r:=r) (g':=g') hzz (fun _=>rfl) ht hw h1
  rw[show g' i=g i from by show g (low _ _ i)=g i;rw[B4 (ho i o hi).1]]
  exact this
 ·have e1:g' i=g i:=by show g (low _ _ i)=g i;rw[B4 (ho i oi hi).1]
  have e2:g' j=g j:=by show g (low _ _ j)=g j;rw[B4 (ho j oj hj).1]
  rw[e1]at bi
  rw[e2]at bj
  exact R.heap.sep i j oi oj b (hh i oi hi) (hh j oj hj) bi bj
 ·have e1:g' i=g i:=by show g (low _ _ i)=g i;rw[B4 (ho i oi hi).1]
  rw[e1]at bi
  exact R.heap.apart i oi b o (hh i oi hi) bi
 ·have e1:g' j=g j:=by show g (low _ _ _)=_;rw[B4 (ho _ ob hj).1]
  rw[e1]at hz'
  exact R.within j ob b o (hh _ ob hj) hz'
 ·have:¬n<σ'.next:=by omega
  show g (low _ _ (.loc n))=undef
  simp only[low,if_neg this]
  exact hN.1
 ·cases hc:AJ σ'.heap (.loc n)with
  | none=>rfl
  | some o=>
   have:=(ho _ o hc).1
   simp[Kc]at this
   omega
def Gb (l:List (Nat×AV)):List Nat→List (Nat×AV)
 | []=>[]
 | k::ks=>(k,AQ l k)::Gb l ks
def KF (l:List (Id×AD)):List Id→Option (List (Id×AD))
 | []=>some []
 | i::is=>match AJ l i with
  | some o=>match KF l is with
   | some r=>some ((i,o)::r)
   | none=>none
  | none=>none
def UB (ks:List Nat) (is:List Id) (n:Nat) (σ:St) (K:St→Prop):Prop:=
 match KF σ.heap is with
 | none=>False
 | some hp=>BH (BZ (fun x=>vI n x.2) (Gb σ.slots ks))<| BH (BZ (fun x:Id×AD=>match Kc n x.1 with | true=>jL n x.2 | false=>false) hp)<|
   K ⟨Gb σ.slots ks,hp,n⟩
theorem OP {l:List (Nat×AV)}{ks:List Nat}(t:Nat):AQ (Gb l ks) t= .u∨AQ (Gb l ks) t=AQ l t:=by
 induction ks with
 | nil=>exact .inl rfl
 | cons k ks ih=>
  show AQ ((k,AQ l k)::Gb l ks) t=_∨AQ ((k,AQ l k)::Gb l ks) t=_
  rw[Ba]
  grind
theorem Rp {p:AV→Bool}(hu:p .u=true) {l:List (Nat×AV)}(h:BZ (fun x=>p x.2) l=true) (t:Nat):p (AQ l t)=true:=by
 induction l with
 | nil=>exact hu
 | cons x l ih=>
  obtain⟨k,v⟩:=x
  rw[BD]at h
  rw[Ba]
  simp only[]
  split
  ·simp_all
  ·exact ih (BD.2 fun x hx=>h x (by simp[hx]))
theorem HH {l:List (Id×AD)}:∀{is:List Id}{r:List (Id×AD)},KF l is=some r→∀i o,AJ r i=some o→AJ l i=some o∧(i,o)∈r
 | [],r,h,i,o,hi=>by simp[KF]at h;subst h;simp[AJ]at hi
 | j::is,r,h,i,o,hi=>by
  unfold KF at h
  split at h
  ·rename_i o' ho
   split at h
   ·rename_i r' hr
    simp at h
    subst h
    rw[CY]at hi
    simp only[AK]at hi
    split at hi
    ·simp_all
    ·obtain⟨h1,h2⟩:=HH hr i o hi
     simp_all
   ·simp at h
  ·simp at h
theorem Wl {ks:List Nat}{is:List Id}{n:Nat}{σ:St}{K:St→Prop}(h:UB ks is n σ K):∃σ',BM σ σ'∧K σ':=by
 unfold UB at h
 split at h
 ·exact h.elim
 ·rename_i hp hhp
  obtain⟨h1,h⟩:=AA.1 h
  obtain⟨h2,h⟩:=AA.1 h
  refine⟨_,Wk ⟨fun t=>OP t,fun i o hi=>(HH hhp i o hi).1,fun t=>Rp rfl h1 t,fun i o hi=>?_⟩,h⟩
  have:=BD.1 h2 _ (HH hhp i o hi).2
  grind
end Go.AM
namespace Go.AM
open Go Go.RowKit
def YT:CV→Value→Bool
 | .d (.int k n),.int k' m=>decide (k=k')&&decide (n=m)
 | .d (.bool b),.bool b'=>b==b'
 | .d (.str s),.string s'=>s.data.toList.isEmpty&&s'.data.toList.isEmpty
 | .nils _ _,.slice none 0 0=>true
 | .nilp,.pointer none=>true
 | .nilf,.nilFunc=>true
 | .nilm,.map none=>true
 | .un,.nilIface=>true
 | _,_=>false
def OQ:List CV→List Value→Bool
 | [],[]=>true
 | c::cs,v::vs=>YT c v&&OQ cs vs
 | _,_=>false
def Good (P:Program) (t:TypeId) (x:TI):Prop:=
 P.underlying t=some x.desc∧(P.info? t).map (fun i=>(i.size,i.bytes,i.zero))=some (x.size,x.bytes,some x.zero)∧
 (OQ x.zc x.zero.cells.toList&&(Nat.beq x.zc.length x.size&&(AR x.desc || Nat.beq x.size 1)))=true
def Bg (P:Program):List (Nat×TI)→Prop
 | []=>True
 | p::l=>Good P p.1 p.2∧Bg P l
def FT (P:Program):List (List (Nat×TI))→Prop
 | []=>True
 | p::l=>Bg P p∧FT P l
def assoc:List (Nat×TI)→Nat→Option TI
 | [],_=>none
 | (k,x)::l,t=>match Nat.beq k t with
  | true=>some x
  | false=>assoc l t
def nth {α:Type}:List (List α)→Nat→List α
 | [],_=>[]
 | x::l,n=>match n with
  | 0=>x
  | n+1=>nth l n
def Vc (l:List (List (Nat×TI))):Types:=fun t=>assoc (nth l (t / 16)) t
theorem YU {c:CV}{v:Value}(h:YT c v=true):Q8 c v:=by
 unfold YT at h
 split at h
 ·simp at h;exact h
 ·simpa [Q8] using h
 ·simp only[Bool.and_eq_true,List.isEmpty_iff]at h
  have e:∀s:ByteArray,s.data.toList=[]→s=ByteArray.empty:=by
   intro s hs
   apply ByteArray.ext
   simp_all
  rw[e _ h.1,e _ h.2];rfl
 ·trivial
 ·trivial
 ·trivial
 ·trivial
 ·rfl
 ·simp at h
theorem Rq:∀{cs:List CV}{vs:List Value},OQ cs vs=true→vs.length=cs.length∧∀(j:Nat) c u,cs[j]?=some c→vs[j]?=some u→Q8 c u
 | [],[],_=>⟨rfl,by simp⟩
 | c::cs,v::vs,h=>by
  simp only[OQ,Bool.and_eq_true]at h
  obtain⟨h1,h2⟩:=Rq h.2
  refine⟨by simp[h1],fun j c' u hc hu=>?_⟩
  match j with
  | 0=>simp at hc hu;subst hc;subst hu;exact YU h.1
  | j+1=>grind
 | [],_::_,h=>by simp[OQ]at h
 | _::_,[],h=>by simp[OQ]at h
theorem Lr {P:Program}:∀{l:List (Nat×TI)}{t:Nat}{x:TI},Bg P l→assoc l t=some x→Good P t x
 | [],t,x,_,h=>by simp[assoc]at h
 | (k,y)::l,t,x,hg,h=>by
  unfold assoc at h
  split at h
  ·rename_i hb
   simp at h
   subst h
   have:=Nat.eq_of_beq_eq_true hb
   subst this
   exact hg.1
  ·exact Lr hg.2 h
theorem Rr {P:Program}:∀{l:List (List (Nat×TI))}{n:Nat},FT P l→Bg P (nth l n)
 | [],_,_=>trivial
 | x::l,0,h=>h.1
 | x::l,n+1,h=>Rr (l:=l) (n:=n) h.2
section
variable {P:Program}{l:List (List (Nat×TI))}
theorem Ls (h:FT P l) {t:Nat}{x:TI}(hx:Vc l t=some x):Good P t x:=Lr (Rr h) hx
theorem YV (h:FT P l):Ax P (Vc l):=by
 intro t x hx
 obtain⟨h1,h2,h3⟩:=Ls h hx
 refine⟨h1,?_⟩
 simp only[Option.map_eq_some_iff]at h2
 obtain⟨i,hi,he⟩:=h2
 simp only[Prod.mk.injEq]at he
 simp only[Bool.and_eq_true,Nat.beq_eq]at h3
 obtain⟨z1,z2⟩:=Rq h3.1
 grind
theorem Wm (h:FT P l):BG (Vc l):=by
 intro t x hx hr
 obtain⟨_,_,h3⟩:=Ls h hx
 simp_all
end
end Go.AM
namespace Go.Proofs.YtjfmnfncmfepnaaGreatDoor
open Go Go.AM
def fd (n:String) (t o b:Nat):Field:=⟨n,t,o,false, "", "",b⟩
def fp (p n:String) (t o b:Nat):Field:=⟨n,t,o,false, "",p,b⟩
def vZ:CV→Value
 | .d (.int k _)=>.int k 0
 | .d (.str _)=>.string ByteArray.empty
 | .d (.bool _)=>.bool false
 | .nilm=>.map none
 | .nilp=>.pointer none
 | .nilf=>.nilFunc
 | _=>.slice none 0 0
def Np (b:Nat) (fs:Array Field) (cs:List CV):TI:=⟨.struct fs,cs.length,b,.agg (cs.map vZ).toArray,cs⟩
def zi:CV:=.d (.int .i64 0)
def zu:CV:=.d (.int .u8 0)
def zs:CV:=.d (.str ByteArray.empty)
def zb:CV:=.d (.bool false)
def nR:List (Nat×TI):=[(1,⟨.func #[] #[] false,1,8,.nilFunc,[.nilf]⟩),
 (2,⟨.int .i64,1,8,.int .i64 0,[.d (.int .i64 0)]⟩),
 (3,⟨.int .i64,1,8,.int .i64 0,[.d (.int .i64 0)]⟩),
 (4,⟨.bool,1,1,.bool false,[.d (.bool false)]⟩),
 (5,⟨.int .u8,1,1,.int .u8 0,[.d (.int .u8 0)]⟩),
 (9,⟨.string,1,16,.string ByteArray.empty,[.d (.str ByteArray.empty)]⟩)]
theorem vJ:Bg Tryz.prog nR:=by repeat (any_goals first | exact trivial | kernel_rfl | constructor)
def nS:List (Nat×TI):=[(22,⟨.slice 56,1,24,.slice none 0 0,[.nils true 16]⟩),
 (24,Np 24 #[fd "Items" 22 0 0] [.nils true 16]),
 (26,⟨.slice 40,1,24,.slice none 0 0,[.nils true 4]⟩),
 (28,Np 56 #[fd "Funcs" 26 0 0,fd "Main" 3 1 24,fd "Types" 22 2 32] [.nils true 4,zi,.nils true 16]),
 (29,⟨.int .i64,1,8,.int .i64 0,[.d (.int .i64 0)]⟩)]
theorem vK:Bg Tryz.prog nS:=by repeat (any_goals first | exact trivial | kernel_rfl | constructor)
def nU:List (Nat×TI):=[(38,⟨.slice 44,1,24,.slice none 0 0,[.nils true 9]⟩),
 (40,Np 56 #[fd "Name" 9 0 0,fd "Params" 3 1 16,fd "Slots" 3 2 24,fd "Code" 38 3 32] [zs,zi,zi,.nils true 9]),
 (41,⟨.slice 3,1,24,.slice none 0 0,[.nils false 1]⟩),
 (42,⟨.slice 9,1,24,.slice none 0 0,[.nils false 1]⟩),
 (44,Np 128 #[fd "Op" 5 0 0,fd "A" 3 1 8,fd "B" 3 2 16,fd "C" 3 3 24,fd "Slots" 41 4 32,fd "Path" 42 5 56,fd "Int" 2 6 80,fd "Name" 9 7 88,fd "Names" 42 8 104] [zu,zi,zi,zi,.nils false 1,.nils false 1,zi,zs,.nils false 1]),
 (45,⟨.slice 58,1,24,.slice none 0 0,[.nils true 4]⟩),
 (46,⟨.slice 48,1,24,.slice none 0 0,[.nils true 3]⟩)]
theorem vL:Bg Tryz.prog nU:=by repeat (any_goals first | exact trivial | kernel_rfl | constructor)
def nV:List (Nat×TI):=[(48,Np 48 #[fd "Kind" 5 0 0,fd "Name" 9 1 8,fd "Args" 46 2 24] [zu,zs,.nils true 3]),
 (49,⟨.slice 90,1,24,.slice none 0 0,[.nils true 15]⟩),
 (51,Np 40 #[fd "Name" 9 0 0,fd "Path" 42 1 16] [zs,.nils false 1]),
 (52,⟨.slice 54,1,24,.slice none 0 0,[.nils true 8]⟩),
 (54,Np 120 #[fd "Op" 5 0 0,fd "Int" 2 1 8,fd "Name" 9 2 16,fd "Second" 9 3 32,fd "Place" 51 4 48,fd "Args" 52 6 88,fd "At" 3 7 112] [zu,zi,zs,zs,zs,.nils false 1,.nils true 8,zi]),
 (56,Np 248 #[fd "Kind" 5 0 0,fd "Name" 9 1 8,fd "Fields" 45 2 24,fd "Result" 48 3 48,fd "Body" 49 6 96,fd "Return" 54 7 120,fd "At" 3 15 240] [zu,zs,.nils true 4,zu,zs,.nils true 3,.nils true 15,zu,zi,zs,zs,zs,.nils false 1,.nils true 8,zi,zi]),
 (58,Np 64 #[fd "Name" 9 0 0,fd "Type" 48 1 16] [zs,zu,zs,.nils true 3]),
 (63,⟨.slice 126,1,24,.slice none 0 0,[.nils true 2]⟩)]
theorem vM:Bg Tryz.prog nV:=by repeat (any_goals first | exact trivial | kernel_rfl | constructor)
def nW:List (Nat×TI):=[(65,⟨.pointer 69,1,8,.pointer none,[.nilp]⟩),
 (66,⟨.slice 73,1,24,.slice none 0 0,[.nils true 2]⟩),
 (67,⟨.map 9 3,1,8,.map none,[.nilm]⟩),
 (69,Np 168 #[fp "weftway/lower" "p" 24 0 0,fp "weftway/lower" "u" 28 1 24,fp "weftway/lower" "left" 66 4 80,fp "weftway/lower" "f" 40 5 104,fp "weftway/lower" "slots" 67 9 160] [.nils true 16,.nils true 4,zi,.nils true 16,.nils true 2,zs,zi,zi,.nils true 9,.nilm]),
 (73,Np 48 #[fp "weftway/lower" "names" 42 0 0,fp "weftway/lower" "body" 49 1 24] [.nils false 1,.nils true 15])]
theorem vN:Bg Tryz.prog nW:=by repeat (any_goals first | exact trivial | kernel_rfl | constructor)
def nX:List (Nat×TI):=[(88,⟨.slice 96,1,24,.slice none 0 0,[.nils true 3]⟩),
 (90,Np 264 #[fd "Op" 5 0 0,fd "Name" 9 1 8,fd "Second" 9 2 24,fd "Names" 42 3 40,fd "Type" 48 4 64,fd "Int" 2 7 112,fd "Place" 51 8 120,fd "Exprs" 52 10 160,fd "Body" 49 11 184,fd "Else" 49 12 208,fd "Arms" 88 13 232,fd "At" 3 14 256] [zu,zs,zs,.nils false 1,zu,zs,.nils true 3,zi,zs,.nils false 1,.nils true 8,.nils true 15,.nils true 15,.nils true 3,zi])]
theorem vO:Bg Tryz.prog nX:=by repeat (any_goals first | exact trivial | kernel_rfl | constructor)
def nY:List (Nat×TI):=[(96,Np 56 #[fd "Variant" 9 0 0,fd "Name" 9 1 16,fd "Body" 49 2 32] [zs,zs,.nils true 15]),
 (98,⟨.func #[9] #[4] false,1,8,.nilFunc,[.nilf]⟩),
 (101,Np 64 #[fp "weftway/code" "text" 9 0 0,fp "weftway/code" "a" 3 1 16,fp "weftway/code" "b" 3 2 24,fp "weftway/code" "path" 4 3 32,fp "weftway/code" "slots" 4 4 33,fp "weftway/code" "wide" 4 5 34,fp "weftway/code" "name" 4 6 35,fp "weftway/code" "kinds" 41 7 40] [zs,zi,zi,zb,zb,zb,zb,.nils false 1]),
 (104,⟨.func #[4,9] #[] false,1,8,.nilFunc,[.nilf]⟩)]
theorem vP:Bg Tryz.prog nY:=by repeat (any_goals first | exact trivial | kernel_rfl | constructor)
def nZ:List (Nat×TI):=[(117,⟨.pointer 119,1,8,.pointer none,[.nilp]⟩),
 (119,Np 8 #[fd "Left" 3 0 0] [zi]),
 (126,Np 16 #[fd "Err" 29 0 0,fd "At" 3 1 8] [zi,zi]),
 (127,⟨.pointer 130,1,8,.pointer none,[.nilp]⟩)]
theorem vQ:Bg Tryz.prog nZ:=by repeat (any_goals first | exact trivial | kernel_rfl | constructor)
def oA:List (Nat×TI):=[(128,⟨.map 9 56,1,8,.map none,[.nilm]⟩),
 (130,Np 40 #[fp "weftway/names" "types" 128 0 0,fp "weftway/names" "fns" 128 1 8,fp "weftway/names" "faults" 63 2 16] [.nilm,.nilm,.nils true 2]),
 (131,⟨.slice 4,1,24,.slice none 0 0,[.nils false 1]⟩),
 (136,⟨.pointer 142,1,8,.pointer none,[.nilp]⟩),
 (139,Np 1 #[fp "weftway/names" "there" 4 0 0] [zb]),
 (140,⟨.map 9 139,1,8,.map none,[.nilm]⟩),
 (142,Np 32 #[⟨"look",127,0,true, "", "weftway/names",0⟩,fp "weftway/names" "made" 140 1 8,fp "weftway/names" "count" 3 2 16,fp "weftway/names" "open" 3 3 24] [.nilp,.nilm,zi,zi])]
theorem vR:Bg Tryz.prog oA:=by repeat (any_goals first | exact trivial | kernel_rfl | constructor)
def YW:List (Nat×TI):=[(161,⟨.func #[56] #[4] false,1,8,.nilFunc,[.nilf]⟩),
 (163,⟨.func #[3] #[4] false,1,8,.nilFunc,[.nilf]⟩),
 (168,⟨.array 35 101,280,2240,.agg #[.string ByteArray.empty,.int .i64 0,.int .i64 0,.bool false,.bool false,.bool false,.bool false,.slice none 0 0,.string ByteArray.empty,.int .i64 0,.int .i64 0,.bool false,.bool false,.bool false,.bool false,.slice none 0 0,.string ByteArray.empty,.int .i64 0,.int .i64 0,.bool false,.bool false,.bool false,.bool false,.slice none 0 0,.string ByteArray.empty,.int .i64 0,.int .i64 0,.bool false,.bool false,.bool false,.bool false,.slice none 0 0,.string ByteArray.empty,.int .i64 0,.int .i64 0,.bool false,.bool false,.bool false,.bool false,.slice none 0 0,.string ByteArray.empty,.int .i64 0,.int .i64 0,.bool false,.bool false,.bool false,.bool false,.slice none 0 0,.string ByteArray.empty,.int .i64 0,.int .i64 0,.bool false,.bool false,.bool false,.bool false,.slice none 0 0,.string ByteArray.empty,.int .i64 0,.int .i64 0,.bool false,.bool false,.bool false,.bool false,.slice none 0 0,.string ByteArray.empty,.int .i64 0,.int .i64 0,.bool false,.bool false,.bool false,.bool false,.slice none 0 0,.string ByteArray.empty,.int .i64 0,.int .i64 0,.bool false,.bool false,.bool false,.bool false,.slice none 0 0,.string ByteArray.empty,.int .i64 0,.int .i64 0,.bool false,.bool false,.bool false,.bool false,.slice none 0 0,.string ByteArray.empty,.int .i64 0,.int .i64 0,.bool false,.bool false,.bool false,.bool false,.slice none 0 0,.string ByteArray.empty,.int .i64 0,.int .i64 0,.bool false,.bool false,.bool false,.bool false,.slice none 0 0,.string ByteArray.empty,.int .i64 0,.int .i64 0,.bool false,.bool false,.bool false,.bool false,.slice none 0 0,.string ByteArray.empty,.int .i64 0,.int .i64 0,.bool false,.bool false,.bool false,.bool false,.slice none 0 0,.string ByteArray.empty,.int .i64 0,.int .i64 0,.bool false,.bool false,.bool false,.bool false,.slice none 0 0,.string ByteArray.empty,.int .i64 0,.int .i64 0,.bool false,.bool false,.bool false,.bool false,.slice none 0 0,.string ByteArray.empty,.int .i64 0,.int .i64 0,.bool false,.bool false,.bool false,.bool false,.slice none 0 0,.string ByteArray.empty,.int .i64 0,.int .i64 0,.bool false,.bool false,.bool false,.bool false,.slice none 0 0,.string ByteArray.empty,.int .i64 0,.int .i64 0,.bool false,.bool false,.bool false,.bool false,.slice none 0 0,.string ByteArray.empty,.int .i64 0,.int .i64 0,.bool false,.bool false,.bool false,.bool false,.slice none 0 0,.string ByteArray.empty,.int .i64 0,.int .i64 0,.bool false,.bool false,.bool false,.bool false,.slice none 0 0,.string ByteArray.empty,.int .i64 0,.int .i64 0,.bool false,.bool false,.bool false,.bool false,.slice none 0 0,.string ByteArray.empty,.int .i64 0,.int .i64 0,.bool false,.bool false,.bool false,.bool false,.slice none 0 0,.string ByteArray.empty,.int .i64 0,.int .i64 0,.bool false,.bool false,.bool false,.bool false,.slice none 0 0,.string ByteArray.empty,.int .i64 0,.int .i64 0,.bool false,.bool false,.bool false,.bool false,.slice none 0 0,.string ByteArray.empty,.int .i64 0,.int .i64 0,.bool false,.bool false,.bool false,.bool false,.slice none 0 0,.string ByteArray.empty,.int .i64 0,.int .i64 0,.bool false,.bool false,.bool false,.bool false,.slice none 0 0,.string ByteArray.empty,.int .i64 0,.int .i64 0,.bool false,.bool false,.bool false,.bool false,.slice none 0 0,.string ByteArray.empty,.int .i64 0,.int .i64 0,.bool false,.bool false,.bool false,.bool false,.slice none 0 0,.string ByteArray.empty,.int .i64 0,.int .i64 0,.bool false,.bool false,.bool false,.bool false,.slice none 0 0,.string ByteArray.empty,.int .i64 0,.int .i64 0,.bool false,.bool false,.bool false,.bool false,.slice none 0 0,.string ByteArray.empty,.int .i64 0,.int .i64 0,.bool false,.bool false,.bool false,.bool false,.slice none 0 0,.string ByteArray.empty,.int .i64 0,.int .i64 0,.bool false,.bool false,.bool false,.bool false,.slice none 0 0,.string ByteArray.empty,.int .i64 0,.int .i64 0,.bool false,.bool false,.bool false,.bool false,.slice none 0 0],[.d (.str ByteArray.empty),.d (.int .i64 0),.d (.int .i64 0),.d (.bool false),.d (.bool false),.d (.bool false),.d (.bool false),.nils false 1,.d (.str ByteArray.empty),.d (.int .i64 0),.d (.int .i64 0),.d (.bool false),.d (.bool false),.d (.bool false),.d (.bool false),.nils false 1,.d (.str ByteArray.empty),.d (.int .i64 0),.d (.int .i64 0),.d (.bool false),.d (.bool false),.d (.bool false),.d (.bool false),.nils false 1,.d (.str ByteArray.empty),.d (.int .i64 0),.d (.int .i64 0),.d (.bool false),.d (.bool false),.d (.bool false),.d (.bool false),.nils false 1,.d (.str ByteArray.empty),.d (.int .i64 0),.d (.int .i64 0),.d (.bool false),.d (.bool false),.d (.bool false),.d (.bool false),.nils false 1,.d (.str ByteArray.empty),.d (.int .i64 0),.d (.int .i64 0),.d (.bool false),.d (.bool false),.d (.bool false),.d (.bool false),.nils false 1,.d (.str ByteArray.empty),.d (.int .i64 0),.d (.int .i64 0),.d (.bool false),.d (.bool false),.d (.bool false),.d (.bool false),.nils false 1,.d (.str ByteArray.empty),.d (.int .i64 0),.d (.int .i64 0),.d (.bool false),.d (.bool false),.d (.bool false),.d (.bool false),.nils false 1,.d (.str ByteArray.empty),.d (.int .i64 0),.d (.int .i64 0),.d (.bool false),.d (.bool false),.d (.bool false),.d (.bool false),.nils false 1,.d (.str ByteArray.empty),.d (.int .i64 0),.d (.int .i64 0),.d (.bool false),.d (.bool false),.d (.bool false),.d (.bool false),.nils false 1,.d (.str ByteArray.empty),.d (.int .i64 0),.d (.int .i64 0),.d (.bool false),.d (.bool false),.d (.bool false),.d (.bool false),.nils false 1,.d (.str ByteArray.empty),.d (.int .i64 0),.d (.int .i64 0),.d (.bool false),.d (.bool false),.d (.bool false),.d (.bool false),.nils false 1,.d (.str ByteArray.empty),.d (.int .i64 0),.d (.int .i64 0),.d (.bool false),.d (.bool false),.d (.bool false),.d (.bool false),.nils false 1,.d (.str ByteArray.empty),.d (.int .i64 0),.d (.int .i64 0),.d (.bool false),.d (.bool false),.d (.bool false),.d (.bool false),.nils false 1,.d (.str ByteArray.empty),.d (.int .i64 0),.d (.int .i64 0),.d (.bool false),.d (.bool false),.d (.bool false),.d (.bool false),.nils false 1,.d (.str ByteArray.empty),.d (.int .i64 0),.d (.int .i64 0),.d (.bool false),.d (.bool false),.d (.bool false),.d (.bool false),.nils false 1,.d (.str ByteArray.empty),.d (.int .i64 0),.d (.int .i64 0),.d (.bool false),.d (.bool false),.d (.bool false),.d (.bool false),.nils false 1,.d (.str ByteArray.empty),.d (.int .i64 0),.d (.int .i64 0),.d (.bool false),.d (.bool false),.d (.bool false),.d (.bool false),.nils false 1,.d (.str ByteArray.empty),.d (.int .i64 0),.d (.int .i64 0),.d (.bool false),.d (.bool false),.d (.bool false),.d (.bool false),.nils false 1,.d (.str ByteArray.empty),.d (.int .i64 0),.d (.int .i64 0),.d (.bool false),.d (.bool false),.d (.bool false),.d (.bool false),.nils false 1,.d (.str ByteArray.empty),.d (.int .i64 0),.d (.int .i64 0),.d (.bool false),.d (.bool false),.d (.bool false),.d (.bool false),.nils false 1,.d (.str ByteArray.empty),.d (.int .i64 0),.d (.int .i64 0),.d (.bool false),.d (.bool false),.d (.bool false),.d (.bool false),.nils false 1,.d (.str ByteArray.empty),.d (.int .i64 0),.d (.int .i64 0),.d (.bool false),.d (.bool false),.d (.bool false),.d (.bool false),.nils false 1,.d (.str ByteArray.empty),.d (.int .i64 0),.d (.int .i64 0),.d (.bool false),.d (.bool false),.d (.bool false),.d (.bool false),.nils false 1,.d (.str ByteArray.empty),.d (.int .i64 0),.d (.int .i64 0),.d (.bool false),.d (.bool false),.d (.bool false),.d (.bool false),.nils false 1,.d (.str ByteArray.empty),.d (.int .i64 0),.d (.int .i64 0),.d (.bool false),.d (.bool false),.d (.bool false),.d (.bool false),.nils false 1,.d (.str ByteArray.empty),.d (.int .i64 0),.d (.int .i64 0),.d (.bool false),.d (.bool false),.d (.bool false),.d (.bool false),.nils false 1,.d (.str ByteArray.empty),.d (.int .i64 0),.d (.int .i64 0),.d (.bool false),.d (.bool false),.d (.bool false),.d (.bool false),.nils false 1,.d (.str ByteArray.empty),.d (.int .i64 0),.d (.int .i64 0),.d (.bool false),.d (.bool false),.d (.bool false),.d (.bool false),.nils false 1,.d (.str ByteArray.empty),.d (.int .i64 0),.d (.int .i64 0),.d (.bool false),.d (.bool false),.d (.bool false),.d (.bool false),.nils false 1,.d (.str ByteArray.empty),.d (.int .i64 0),.d (.int .i64 0),.d (.bool false),.d (.bool false),.d (.bool false),.d (.bool false),.nils false 1,.d (.str ByteArray.empty),.d (.int .i64 0),.d (.int .i64 0),.d (.bool false),.d (.bool false),.d (.bool false),.d (.bool false),.nils false 1,.d (.str ByteArray.empty),.d (.int .i64 0),.d (.int .i64 0),.d (.bool false),.d (.bool false),.d (.bool false),.d (.bool false),.nils false 1,.d (.str ByteArray.empty),.d (.int .i64 0),.d (.int .i64 0),.d (.bool false),.d (.bool false),.d (.bool false),.d (.bool false),.nils false 1,.d (.str ByteArray.empty),.d (.int .i64 0),.d (.int .i64 0),.d (.bool false),.d (.bool false),.d (.bool false),.d (.bool false),.nils false 1]⟩)]
theorem qC:Bg Tryz.prog YW:=by repeat (any_goals first | exact trivial | kernel_rfl | constructor)
def YX:List (Nat×TI):=[(188,⟨.slice 1,1,24,.slice none 0 0,[.nils false 1]⟩),
 (190,⟨.func #[54] #[4] false,1,8,.nilFunc,[.nilf]⟩)]
theorem qD:Bg Tryz.prog YX:=by repeat (any_goals first | exact trivial | kernel_rfl | constructor)
def YY:List (Nat×TI):=[(192,⟨.func #[65,54] #[] false,1,8,.nilFunc,[.nilf]⟩),
 (193,⟨.array 37 192,37,296,.agg #[.nilFunc,.nilFunc,.nilFunc,.nilFunc,.nilFunc,.nilFunc,.nilFunc,.nilFunc,.nilFunc,.nilFunc,.nilFunc,.nilFunc,.nilFunc,.nilFunc,.nilFunc,.nilFunc,.nilFunc,.nilFunc,.nilFunc,.nilFunc,.nilFunc,.nilFunc,.nilFunc,.nilFunc,.nilFunc,.nilFunc,.nilFunc,.nilFunc,.nilFunc,.nilFunc,.nilFunc,.nilFunc,.nilFunc,.nilFunc,.nilFunc,.nilFunc,.nilFunc],[.nilf,.nilf,.nilf,.nilf,.nilf,.nilf,.nilf,.nilf,.nilf,.nilf,.nilf,.nilf,.nilf,.nilf,.nilf,.nilf,.nilf,.nilf,.nilf,.nilf,.nilf,.nilf,.nilf,.nilf,.nilf,.nilf,.nilf,.nilf,.nilf,.nilf,.nilf,.nilf,.nilf,.nilf,.nilf,.nilf,.nilf]⟩),
 (195,⟨.func #[233] #[] false,1,8,.nilFunc,[.nilf]⟩),
 (196,⟨.func #[233] #[] false,1,8,.nilFunc,[.nilf]⟩)]
theorem qE:Bg Tryz.prog YY:=by repeat (any_goals first | exact trivial | kernel_rfl | constructor)
def YZ:List (Nat×TI):=[(219,⟨.func #[58] #[4] false,1,8,.nilFunc,[.nilf]⟩),
 (220,⟨.func #[98,4] #[4] false,1,8,.nilFunc,[.nilf]⟩),
 (221,⟨.func #[54,54] #[4] false,1,8,.nilFunc,[.nilf]⟩)]
theorem qF:Bg Tryz.prog YZ:=by repeat (any_goals first | exact trivial | kernel_rfl | constructor)
def Ya:List (Nat×TI):=[(225,⟨.func #[90] #[4] false,1,8,.nilFunc,[.nilf]⟩),
 (233,⟨.func #[3,9] #[4] false,1,8,.nilFunc,[.nilf]⟩)]
theorem qG:Bg Tryz.prog Ya:=by repeat (any_goals first | exact trivial | kernel_rfl | constructor)
def Yb:List (Nat×TI):=[(252,⟨.func #[5] #[4] false,1,8,.nilFunc,[.nilf]⟩),
 (254,Np 24 #[fp "weftway/tree" "place" 4 0 0,fp "weftway/tree" "least" 3 1 8,fp "weftway/tree" "most" 3 2 16] [zb,zi,zi])]
theorem qH:Bg Tryz.prog Yb:=by repeat (any_goals first | exact trivial | kernel_rfl | constructor)
def Yc:List (Nat×TI):=[(260,Np 40 #[fp "weftway/tree" "names" 3 0 0,fp "weftway/tree" "exprs" 3 1 8,fp "weftway/tree" "typed" 4 2 16,fp "weftway/tree" "placed" 4 3 17,fp "weftway/tree" "body" 4 4 18,fp "weftway/tree" "other" 4 5 19,fp "weftway/tree" "arms" 4 6 20,fp "weftway/tree" "lent" 4 7 21,fp "weftway/tree" "name" 98 8 24,fp "weftway/tree" "second" 98 9 32] [zi,zi,zb,zb,zb,zb,zb,zb,.nilf,.nilf]),
 (271,⟨.map 5 5,1,8,.map none,[.nilm]⟩)]
theorem qI:Bg Tryz.prog Yc:=by repeat (any_goals first | exact trivial | kernel_rfl | constructor)
def Yd:List (List (Nat×TI)):=[nR,nS,nU,nV,nW,nX,nY,nZ,oA,[],YW,YX,YY,YZ,Ya,Yb,Yc]
def Ac:Types:=Vc Yd
theorem Vd:FT Tryz.prog Yd:=⟨vJ,vK,vL,vM,vN,vO,vP,vQ,vR,trivial,qC,qD,qE,qF,qG,qH,qI,trivial⟩
theorem Fq:Ax Tryz.prog Ac:=YV Vd
theorem Er:BG Ac:=Wm Vd
end Go.Proofs.YtjfmnfncmfepnaaGreatDoor
namespace Go.AM
open Go Go.RowKit
def Hi (acc:List Nat):List Edge→Nat
 | []=>0
 | e::r=>match Region.binds .any e with
  | true=>Nat.lor (Nat.lor (2 ^ e.on) (acc.getD e.on 0)) (Hi acc r)
  | false=>Hi acc r
def Ye:List Oper→List Nat→List Nat
 | [],acc=>acc
 | o::r,acc=>Ye r (acc++[Hi acc o.after.toList])
inductive FU (ops:List Oper):Nat→Nat→Prop where
 | edge {i j:Nat} {o:Oper} {e:Edge} (hj:ops[j]?=some o) (he:e∈o.after.toList) (hb:Region.binds .any e=true) (hi:e.on=i):FU ops i j
 | trans {i j k:Nat} (h1:FU ops i j) (h2:FU ops j k):FU ops i k
theorem Lu {ops:List Oper}{acc:List Nat}{j:Nat}{o:Oper}(hj:ops[j]?=some o) (hacc:∀k i,(acc.getD k 0).testBit i=true→FU ops i k):
  ∀(l:List Edge),(∀e∈l,e∈o.after.toList)→∀i,(Hi acc l).testBit i=true→FU ops i j
 | [],_,i,h=>by simp[Hi]at h
 | e::r,hl,i,h=>by
  have ih:=Lu hj hacc r (fun e he=>hl e (List.mem_cons_of_mem _ he)) i
  unfold Hi at h
  split at h
  ·rename_i hb
   rw[show ∀a b:Nat,Nat.lor a b=a ||| b from fun _ _=>rfl,show ∀a b:Nat,Nat.lor a b=a ||| b from fun _ _=>rfl]at h
   simp only[Nat.testBit_or,Bool.or_eq_true,Nat.testBit_two_pow,decide_eq_true_eq]at h
   rcases h with (h | h) | h
   ·exact .edge hj (hl e (by simp)) hb h
   ·exact .trans (hacc _ i h) (.edge hj (hl e (by simp)) hb rfl)
   ·exact ih h
  ·exact ih h
theorem OS {ops:List Oper}:∀(l:List Oper) (acc:List Nat),ops.drop acc.length=l→(∀k i,(acc.getD k 0).testBit i=true→FU ops i k)→
  ∀k i,((Ye l acc).getD k 0).testBit i=true→FU ops i k
 | [],acc,_,hacc,k,i,h=>hacc k i h
 | o::r,acc,hl,hacc,k,i,h=>by
  have hj:ops[acc.length]?=some o:=by
   have:=congrArg (fun l=>l[0]?) hl
   simpa using this
  refine OS r (acc++[Hi acc o.after.toList]) ?_ ?_ k i h
  ·have:=congrArg List.tail hl
   simpa using this
  ·intro k i hk
   by_cases h1:k<acc.length
   ·grind
   ·by_cases h2:k=acc.length
    ·subst h2
     refine Lu hj hacc o.after.toList (fun e he=>he) i ?_
     simp_all
    grind
def tmpsOf:List Operand→List Nat
 | []=>[]
 | .tmp t::r=>t::tmpsOf r
 | _::r=>tmpsOf r
def Gc (ops:Array Oper) (o:Oper):List Nat:=
 tmpsOf o.op.operands.toList++(match o.guard with
  | some (j,_)=>((ops[j]?).bind (·.dst)).toList
  | none=>[])
def meet (a b:List Nat):Bool:=a.any fun x=>b.any fun y=>Nat.beq x y
def Rs (a b:List Id):Bool:=a.any fun x=>b.any fun y=>Id.beq x y
def Ea (ops:Array Oper) (a b:Oper):Bool:=
 meet a.dst.toList (Gc ops b) || meet a.dst.toList b.dst.toList || meet (Gc ops a) b.dst.toList
abbrev Fp:=List Id×List Id
def Hj (a b:Fp):Bool:=Rs a.2 b.1 || Rs a.2 b.2 || Rs a.1 b.2
def Ve (ops:Array Oper) (ms:List Nat) (l:List (Nat×Oper×Fp)):Bool:=
 l.all fun x=>l.all fun y=>!(Nat.blt x.1 y.1) || !(Ea ops x.2.1 y.2.1 || Hj x.2.2 y.2.2) || (ms.getD y.1 0).testBit x.1
def Pj:List Oper→Nat→Bool
 | [],_=>true
 | o::r,i=>o.after.toList.all (fun e=>!(Region.binds .any e) || Nat.blt e.on i)&&Pj r (i+1)
def number:List Oper→List Fp→Nat→List (Nat×Oper×Fp)
 | o::r,f::fs,i=>(i,o,f)::number r fs (i+1)
 | _,_,_=>[]
def Yf (ops:Array Oper) (fps:List Fp):Bool:=
 Nat.beq fps.length ops.size&&(Pj ops.toList 0&&Ve ops (Ye ops.toList []) (number ops.toList fps 0))
def Dw (M:Au) (ti:Types) (nt:Nat) (ops:Array Oper) (base:Nat):List Oper→Nat→St→List Fp→(St→List Fp→Prop)→Prop
 | [],i,σ,fps,K=>K ⟨σ.slots,σ.heap,base+32*i⟩ fps
 | o::r,i,σ,fps,K=>guarded ops o σ
   (fun σ1=>Ep o<| GD nt o.dst<| DZ M ti o (base+32*i) (AQ σ1.slots) (AJ σ1.heap) fun out=>
    Dw M ti nt ops base r (i+1) ⟨Ck σ1.slots o.dst out.val,Cb σ1.heap out.wr,σ1.next⟩ (fps++[(out.rd,out.wr.map (·.1))]) K)
   (fun σ1=>GD nt o.dst (Dw M ti nt ops base r (i+1) ⟨Ck σ1.slots o.dst (.t []),σ1.heap,σ1.next⟩ (fps++[([],[])]) K))
def BI (ti:Types) (M:Au) (nt:Nat) (ops:Array Oper) (σ:St) (K:St→Prop):Prop:=
 Dw M ti nt ops σ.next ops.toList 0 σ [] fun σ' fps=>M.lock (fun _=>Yf ops fps=true)∧K σ'
structure Kt where
 o:Oper
 run:Bool
 val:AV
 rd:List Id
 wr:List (Id×AD)
def Da (ops:Array Oper) (e:Kt) (s:AL):Prop:=
 match e.o.guard with
 | none=>e.run=true
 | some (j,want)=>∃d,(ops[j]?).bind (·.dst)=some d∧(s d= .v (.d (.bool (if e.run then want else !want)))∨(e.run=false∧s d= .t []))
def Rt (C:Cx) (ops:Array Oper) (base:Nat):List Kt→Nat→AL→Heap→Prop
 | [],_,_,_=>True
 | e::r,i,s,h=>ops[i]?=some e.o∧(∀d,e.o.dst=some d→d<C.nt)∧Da ops e s∧(e.run=true→(∀c,e.o.op≠ .defer c)∧BL C e.o (base+32*i) s h ⟨e.val,e.rd,e.wr⟩)∧
   (e.run=false→e.val= .t []∧e.wr=[]∧e.rd=[])∧Rt C ops base r (i+1) (CL s e.o.dst e.val) (Ay h e.wr)
def UC:List Kt→AL→AL
 | [],s=>s
 | e::r,s=>UC r (CL s e.o.dst e.val)
def UD:List Kt→Heap→Heap
 | [],h=>h
 | e::r,h=>UD r (Ay h e.wr)
section
variable {C:Cx}{ti:Types}
theorem Fs (hti:Ax C.P ti) (h1:BG ti) {ops:Array Oper}{base:Nat}{K:St→List Fp→Prop}:∀(l:List Oper) (i:Nat) (σ:St) (fps:List Fp),
  ops.toList.drop i=l→Dw C.M ti C.nt ops base l i σ fps K→
  ∃(es:List Kt) (σ':St),es.map (·.o)=l∧Rt C ops base es i (AQ σ.slots) (AJ σ.heap)∧AQ σ'.slots=UC es (AQ σ.slots)∧AJ σ'.heap=UD es (AJ σ.heap)∧
   σ'.next=base+32*(i+l.length)∧K σ' (fps++es.map fun e=>(e.rd,e.wr.map (·.1)))
 | [],i,σ,fps,_,hk=>⟨[],⟨σ.slots,σ.heap,base+32*i⟩,rfl,trivial,rfl,rfl,by simp,by simpa using (show K ⟨σ.slots,σ.heap,base+32*i⟩ fps from hk)⟩
 | o::r,i,σ,fps,hl,hk=>by
  have hi:ops[i]?=some o:=by
   have:=congrArg (fun l=>l[0]?) hl
   simpa using this
  have hr:ops.toList.drop (i+1)=r:=by
   have:=congrArg List.tail hl
   simpa using this
  have run:∀(g:Da ops ⟨o,true,.u,[],[]⟩ (AQ σ.slots)),(Ep o<| GD C.nt o.dst<| DZ C.M ti o (base+32*i) (AQ σ.slots) (AJ σ.heap) fun out=>
    Dw C.M ti C.nt ops base r (i+1) ⟨Ck σ.slots o.dst out.val,Cb σ.heap out.wr,σ.next⟩ (fps++[(out.rd,out.wr.map (·.1))]) K)→
    ∃(es:List Kt) (σ':St),es.map (·.o)=o::r∧Rt C ops base es i (AQ σ.slots) (AJ σ.heap)∧AQ σ'.slots=UC es (AQ σ.slots)∧AJ σ'.heap=UD es (AJ σ.heap)∧
     σ'.next=base+32*(i+(o::r).length)∧K σ' (fps++es.map fun e=>(e.rd,e.wr.map (·.1))):=by
   intro g hk
   obtain⟨hst,hnd,hk⟩:=KE hk
   obtain⟨hd,hk⟩:=HG.1 hk
   obtain⟨out,hk,hok⟩:=Ga hti h1 hst.1 hst.2 hk
   obtain⟨es,σ',e1,e2,e3,e4,e5,e6⟩:=Fs hti h1 r (i+1) _ _ hr hk
   rw[Cv]at e2 e3
   rw[CZ]at e2 e4
   refine⟨⟨o,true,out.val,out.rd,out.wr⟩::es,σ',by simp[e1],⟨hi,hd,g,fun _=>⟨hnd,hok⟩,fun e=>by simp at e,e2⟩,e3,e4,by rw[e5];simp;omega,?_⟩
   simpa using e6
  have skip:∀(g:Da ops ⟨o,false,.t [],[],[]⟩ (AQ σ.slots)),(GD C.nt o.dst (Dw C.M ti C.nt ops base r (i+1) ⟨Ck σ.slots o.dst (.t []),σ.heap,σ.next⟩ (fps++[([],[])]) K))→
    ∃(es:List Kt) (σ':St),es.map (·.o)=o::r∧Rt C ops base es i (AQ σ.slots) (AJ σ.heap)∧AQ σ'.slots=UC es (AQ σ.slots)∧AJ σ'.heap=UD es (AJ σ.heap)∧
     σ'.next=base+32*(i+(o::r).length)∧K σ' (fps++es.map fun e=>(e.rd,e.wr.map (·.1))):=by
   intro g hk
   obtain⟨hd,hk⟩:=HG.1 hk
   obtain⟨es,σ',e1,e2,e3,e4,e5,e6⟩:=Fs hti h1 r (i+1) _ _ hr hk
   rw[Cv]at e2 e3
   refine⟨⟨o,false,.t [],[],[]⟩::es,σ',by simp[e1],⟨hi,hd,g,fun e=>by simp at e,fun _=>⟨rfl,rfl,rfl⟩,e2⟩,e3,e4,by rw[e5];simp;omega,?_⟩
   simpa using e6
  have hk':guarded ops o σ _ _:=hk
  unfold guarded at hk'
  split at hk'
  ·rename_i hg
   exact run (by simp[Da,hg]) hk'
  ·rename_i j want hg
   split at hk'
   ·exact hk'.elim
   ·rename_i d hd
    split at hk'
    ·rename_i c hc
     cases want<;>cases c
     ·exact run (by simp only[Da,hg];simp_all) hk'
     ·exact skip (by simp only[Da,hg];simp_all) hk'
     ·exact skip (by simp only[Da,hg];simp_all) hk'
     ·exact run (by simp only[Da,hg];simp_all) hk'
    ·rename_i hc
     exact skip (by simp only[Da,hg];simp_all) hk'
    ·exact hk'.elim
def Db (S:Nat→Bool):List Kt→Nat→AL→AL
 | [],_,s=>s
 | e::r,i,s=>Db S r (i+1) (if S i then CL s e.o.dst e.val else s)
def Bw (S:Nat→Bool):List Kt→Nat→Heap→Heap
 | [],_,h=>h
 | e::r,i,h=>Bw S r (i+1) (if S i then Ay h e.wr else h)
theorem jN {s s':AL}{d:Option Tmp}{v:AV}{t:Nat}(h:d≠some t→s t=s' t):CL s d v t=CL s' d v t:=by
 cases d with
 | none=>exact h (by simp)
 | some d=>
  simp only[CL]
  grind
theorem Ij {s:AL}{d:Option Tmp}{v:AV}{t:Nat}(h:d≠some t):CL s d v t=s t:=by
 cases d with
 | none=>rfl
 | some d=>
  simp only[CL]
  rw[if_neg]
  grind
theorem Vf {h h':Heap}{i:Id}:∀{wr:List (Id×AD)},(i∉wr.map (·.1)→h i=h' i)→Ay h wr i=Ay h' wr i:=by
 intro wr
 induction wr generalizing h h' with
 | nil=>intro hh;exact hh (by simp)
 | cons x wr ih=>
  intro hh
  refine ih fun hn=>?_
  simp only[AK]
  simp_all
theorem Ft {S S':Nat→Bool}{t:Nat}:∀(es:List Kt) (i:Nat) (s s':AL),s t=s' t→(∀k e,es[k]?=some e→e.o.dst=some t→S (i+k)=S' (i+k))→
  Db S es i s t=Db S' es i s' t
 | [],i,s,s',h,_=>h
 | e::r,i,s,s',h,hw=>by
  refine Ft r (i+1) _ _ ?_ (fun k e' hk hd=>by have:=hw (k+1) e' (by simpa using hk) hd;grind)
  by_cases hd:e.o.dst=some t
  ·have:=hw 0 e rfl hd
   simp only[Nat.add_zero]at this
   rw[this]
   cases S' i
   ·exact h
   ·exact jN (fun _=>h)
  ·cases S i<;>cases S' i<;>simp[Ij hd,h]
theorem Es {S S':Nat→Bool}{x:Id}:∀(es:List Kt) (i:Nat) (h h':Heap),h x=h' x→(∀k e,es[k]?=some e→x∈e.wr.map (·.1)→S (i+k)=S' (i+k))→
  Bw S es i h x=Bw S' es i h' x
 | [],i,h,h',hh,_=>hh
 | e::r,i,h,h',hh,hw=>by
  refine Es r (i+1) _ _ ?_ (fun k e' hk hd=>by have:=hw (k+1) e' (by simpa using hk) hd;grind)
  by_cases hd:x∈e.wr.map (·.1)
  ·have:=hw 0 e rfl hd
   simp only[Nat.add_zero]at this
   rw[this]
   cases S' i
   ·exact hh
   ·exact Vf (fun _=>hh)
  ·have e1:Ay h e.wr x=h x:=DG hd
   have e2:Ay h' e.wr x=h' x:=DG hd
   cases S i<;>cases S' i<;>simp[e1,e2,hh]
theorem Ru {S S':Nat→Bool}{t:Nat}{n:Nat}{en:Kt}:∀(es:List Kt) (i:Nat) (s:AL),es[n]?=some en→S (i+n)=false→S' (i+n)=true→(∀k,k≠i+n→S' k=S k)→
  (en.o.dst=some t→∀k e,es[k]?=some e→e.o.dst=some t→n<k→S (i+k)=false)→Db S' es i s t=CL (Db S es i s) en.o.dst en.val t
 | [],i,s,hn,_,_,_,_=>by simp at hn
 | e::r,i,s,hn,h0,h1,hS,hb=>by
  cases n with
  | zero=>
   simp at hn
   subst hn
   simp only[Nat.add_zero]at h0 h1
   show Db S' r (i+1) (if S' i then CL s e.o.dst e.val else s) t=CL (Db S r (i+1) (if S i then CL s e.o.dst e.val else s)) e.o.dst e.val t
   rw[h0,h1]
   simp only[if_true,Bool.false_eq_true,if_false]
   have same:∀s',Db S' r (i+1) s' t=Db S r (i+1) s' t:=fun s'=>Ft r (i+1) s' s' rfl (fun k e' _ _=>hS _ (by omega))
   rw[same]
   by_cases hd:e.o.dst=some t
   ·have none:∀s':AL,Db S r (i+1) s' t=s' t:=by
     intro s'
     have z:∀(l:List Kt) (m:Nat) (s':AL),(∀k e,l[k]?=some e→e.o.dst=some t→S (m+k)=false)→Db S l m s' t=s' t:=by
      intro l
      induction l with
      | nil=>intro m s' _;rfl
      | cons e l ih=>
       intro m s' hz
       show Db S l (m+1) (if S m then CL s' e.o.dst e.val else s') t=_
       rw[ih (m+1) _ (fun k e' hk hd=>by have:=hz (k+1) e' (by simpa using hk) hd;grind)]
       by_cases hd:e.o.dst=some t
       ·have:=hz 0 e rfl hd
        simp_all
       ·split
        ·exact Ij hd
        ·rfl
     exact z r (i+1) s' (fun k e' hk hd'=>by
      have:=hb hd (k+1) e' (by simpa using hk) hd' (by omega)
      grind)
    rw[none,hd]
    simp[CL]
   ·rw[Ij hd]
    exact Ft r (i+1) _ _ (Ij hd) (fun _ _ _ _=>rfl)
  | succ n=>
   have e1:S' i=S i:=hS i (by omega)
   show Db S' r (i+1) (if S' i then CL s e.o.dst e.val else s) t=_
   rw[e1]
   refine Ru r (i+1) _ (by simpa using hn) (by grind) (by grind)
    (fun k hk=>hS k (by omega)) (fun hd k e' hk hd' hlt=>?_)
   have:=hb hd (k+1) e' (by simpa using hk) hd' (by omega)
   grind
theorem OT {S S':Nat→Bool}{x:Id}{n:Nat}{en:Kt}:∀(es:List Kt) (i:Nat) (s:Heap),es[n]?=some en→S (i+n)=false→S' (i+n)=true→(∀k,k≠i+n→S' k=S k)→
  (x∈en.wr.map (·.1)→∀k e,es[k]?=some e→x∈e.wr.map (·.1)→n<k→S (i+k)=false)→Bw S' es i s x=Ay (Bw S es i s) en.wr x
 | [],i,s,hn,_,_,_,_=>by simp at hn
 | e::r,i,s,hn,h0,h1,hS,hb=>by
  cases n with
  | zero=>
   simp at hn
   subst hn
   simp only[Nat.add_zero]at h0 h1
   show Bw S' r (i+1) (if S' i then Ay s e.wr else s) x=Ay (Bw S r (i+1) (if S i then Ay s e.wr else s)) e.wr x
   rw[h0,h1]
   simp only[if_true,Bool.false_eq_true,if_false]
   have same:∀s',Bw S' r (i+1) s' x=Bw S r (i+1) s' x:=fun s'=>Es r (i+1) s' s' rfl (fun k e' _ _=>hS _ (by omega))
   rw[same]
   by_cases hd:x∈e.wr.map (·.1)
   ·have none:∀s':Heap,Bw S r (i+1) s' x=s' x:=by
     intro s'
     have z:∀(l:List Kt) (m:Nat) (s':Heap),(∀k e,l[k]?=some e→x∈e.wr.map (·.1)→S (m+k)=false)→Bw S l m s' x=s' x:=by
      intro l
      induction l with
      | nil=>intro m s' _;rfl
      | cons e l ih=>
       intro m s' hz
       show Bw S l (m+1) (if S m then Ay s' e.wr else s') x=_
       rw[ih (m+1) _ (fun k e' hk hd=>by have:=hz (k+1) e' (by simpa using hk) hd;grind)]
       by_cases hd:x∈e.wr.map (·.1)
       ·have:=hz 0 e rfl hd
        simp_all
       ·split
        ·exact DG hd
        ·rfl
     exact z r (i+1) s' (fun k e' hk hd'=>by
      have:=hb hd (k+1) e' (by simpa using hk) hd' (by omega)
      grind)
    rw[none]
    exact Vf (fun hn=>absurd hd hn)
   ·rw[DG hd]
    exact Es r (i+1) _ _ (DG hd) (fun _ _ _ _=>rfl)
  | succ n=>
   have e1:S' i=S i:=hS i (by omega)
   show Bw S' r (i+1) (if S' i then Ay s e.wr else s) x=_
   rw[e1]
   refine OT r (i+1) _ (by simpa using hn) (by grind) (by grind)
    (fun k hk=>hS k (by omega)) (fun hd k e' hk hd' hlt=>?_)
   have:=hb hd (k+1) e' (by simpa using hk) hd' (by omega)
   grind
end
end Go.AM
namespace Go.AM
open Go Go.RowKit
section
variable {C:Cx}{ti:Types}
theorem JT {S:Nat→Bool}:∀(es:List Kt) (i:Nat) (s:AL),(∀k,i≤k→S k=false)→Db S es i s=s
 | [],_,_,_=>rfl
 | e::r,i,s,h=>by
  show Db S r (i+1) (if S i then _ else s)=s
  rw[h i (Nat.le_refl _)]
  exact JT r (i+1) s (fun k hk=>h k (by omega))
theorem Hk {S:Nat→Bool}:∀(es:List Kt) (i:Nat) (s:Heap),(∀k,i≤k→S k=false)→Bw S es i s=s
 | [],_,_,_=>rfl
 | e::r,i,s,h=>by
  show Bw S r (i+1) (if S i then _ else s)=s
  rw[h i (Nat.le_refl _)]
  exact Hk r (i+1) s (fun k hk=>h k (by omega))
theorem Rv {S:Nat→Bool}:∀(es:List Kt) (i:Nat) (s:AL),(∀k,k<es.length→S (i+k)=true)→Db S es i s=UC es s
 | [],_,_,_=>rfl
 | e::r,i,s,h=>by
  show Db S r (i+1) (if S i then _ else s)=UC r _
  rw[show S i=true from h 0 (by simp)]
  exact Rv r (i+1) _ (fun k hk=>by have:=h (k+1) (by simp;omega);grind)
theorem OU {S:Nat→Bool}:∀(es:List Kt) (i:Nat) (s:Heap),(∀k,k<es.length→S (i+k)=true)→Bw S es i s=UD es s
 | [],_,_,_=>rfl
 | e::r,i,s,h=>by
  show Bw S r (i+1) (if S i then _ else s)=UD r _
  rw[show S i=true from h 0 (by simp)]
  exact OU r (i+1) _ (fun k hk=>by have:=h (k+1) (by simp;omega);grind)
def vS (C:Cx) (ops:Array Oper) (base:Nat) (e:Kt) (i:Nat) (s:AL) (h:Heap):Prop:=
 ops[i]?=some e.o∧(∀d,e.o.dst=some d→d<C.nt)∧Da ops e s∧(e.run=true→(∀c,e.o.op≠ .defer c)∧BL C e.o (base+32*i) s h ⟨e.val,e.rd,e.wr⟩)∧
   (e.run=false→e.val= .t []∧e.wr=[]∧e.rd=[])
theorem vT {ops:Array Oper}{base:Nat}(es:List Kt):∀(m n:Nat) (s:AL) (h:Heap) (e:Kt),Rt C ops base es m s h→es[n]?=some e→
  vS C ops base e (m+n) (Db (fun k=>decide (k<m+n)) es m s) (Bw (fun k=>decide (k<m+n)) es m h):=by
 induction es with
 | nil=>simp_all
 | cons x r ih=>
  intro m n s h e hl hn
  cases n with
  | zero=>
   simp at hn
   subst hn
   have e1:Db (fun k=>decide (k<m+0)) (x::r) m s=s:=JT _ _ _ (fun k hk=>by simp;omega)
   have e2:Bw (fun k=>decide (k<m+0)) (x::r) m h=h:=Hk _ _ _ (fun k hk=>by simp;omega)
   rw[e1,e2]
   exact⟨hl.1,hl.2.1,hl.2.2.1,hl.2.2.2.1,hl.2.2.2.2.1⟩
  | succ n=>
   have:=ih (m+1) n _ _ e hl.2.2.2.2.2 (by simpa using hn)
   rw[show m+1+n=m+(n+1)from by omega]at this
   have e1:Db (fun k=>decide (k<m+(n+1))) (x::r) m s=Db (fun k=>decide (k<m+(n+1))) r (m+1) (CL s x.o.dst x.val):=by
    show Db _ r (m+1) (if decide (m<m+(n+1))then _ else _)=_
    rw[if_pos (by simp)]
   have e2:Bw (fun k=>decide (k<m+(n+1))) (x::r) m h=Bw (fun k=>decide (k<m+(n+1))) r (m+1) (Ay h x.wr):=by
    show Bw _ r (m+1) (if decide (m<m+(n+1))then _ else _)=_
    rw[if_pos (by simp)]
   simp_all
theorem AY.drew {F:Nat→Prop}{s:AL}{h:Heap}{g:AO}{a:Act}{w:World}(R:AY C F s h g a w):AY C F s h g a {w with drawn:=w.drawn+1}:=by
 have E:GJ w (Ar (zone g h) C.X) g h {w with drawn:=w.drawn+1} (Ar (zone g h) C.X) g h:=
  ⟨fun b o u hu hz=>⟨hu,hz⟩,fun _ _ _=>rfl,fun _ _ _=>rfl,fun _ hi=>hi,fun i n sz e _ hn=>⟨n,Nat.le_refl _,hn,fun _=>rfl⟩,fun _ hi=>hi,fun i _ hn=>⟨hn,rfl⟩⟩
 refine R.step (fun _=>False) E ⟨rfl,rfl,rfl,Nat.le_refl _,fun _ _ _=>rfl,fun _ _ _ hu _=>hu⟩ (fun _ _=>⟨rfl,rfl⟩) (fun _ _ _ _ _ _=>rfl) (fun _ _ h=>h.elim) (fun _ _ _ _ h=>h.elim)
  (fun _ _ _ _ _ h=>h.elim) (fun _ h=>h.elim) R.free
theorem filter_one {p p':Nat→Bool}{i:Nat}:∀{l:List Nat},l.Nodup→i∈l→p i=true→p' i=false→(∀k,k≠i→p' k=p k)→(l.filter p').length+1=(l.filter p).length
 | x::l,hn,hi,h1,h0,hs=>by
  have hn':=List.nodup_cons.1 hn
  by_cases hx:x=i
  ·subst hx
   have:l.filter p'=l.filter p:=List.filter_congr fun k hk=>hs k (fun e=>hn'.1 (e▸hk))
   simp[h1,h0,this]
  ·have hil:i∈l:=(List.mem_cons.1 hi).resolve_left (fun e=>hx e.symm)
   have ih:=filter_one hn'.2 hil h1 h0 hs
   grind
theorem Lv {a b:List Nat}{x:Nat}(ha:x∈a) (hb:x∈b):meet a b=true:=by
 simp only[meet,List.any_eq_true]
 exact⟨x,ha,x,hb,by simp⟩
theorem JU {a b:List Id}{x:Id}(ha:x∈a) (hb:x∈b):Rs a b=true:=by
 simp only[Rs,List.any_eq_true]
 exact⟨x,ha,x,hb,Id.beq_iff.2 rfl⟩
theorem Eb {t:Nat}:∀{l:List Operand},Operand.tmp t∈l→t∈tmpsOf l
 | .tmp x::l,h=>by
  rcases List.mem_cons.1 h with h | h
  ·simp at h;subst h;simp[tmpsOf]
  ·simp[tmpsOf,Eb h]
 | .const v::l,h=>by simp[tmpsOf,Eb ((List.mem_cons.1 h).resolve_left (by simp))]
 | .global v::l,h=>by simp[tmpsOf,Eb ((List.mem_cons.1 h).resolve_left (by simp))]
 | .func v::l,h=>by simp[tmpsOf,Eb ((List.mem_cons.1 h).resolve_left (by simp))]
theorem Lw (l:List Oper):∀(fs:List Fp) (i n:Nat) (o:Oper) (f:Fp),l[n]?=some o→fs[n]?=some f→(i+n,o,f)∈number l fs i:=by
 induction l with
 | nil=>simp_all
 | cons x l ih=>
  intro fs i n o f h1 h2
  cases fs with
  | nil=>simp at h2
  | cons y fs=>
   cases n with
   | zero=>simp at h1 h2;subst h1;subst h2;simp[number]
   | succ n=>
    simp at h1 h2
    have:=ih fs (i+1) n o f h1 h2
    rw[show i+1+n=i+(n+1)from by omega]at this
    simp[number,this]
theorem UE (l:List Oper):∀(i n:Nat) (o:Oper) (e:Edge),Pj l i=true→l[n]?=some o→e∈o.after.toList→Region.binds .any e=true→e.on<i+n:=by
 induction l with
 | nil=>simp_all
 | cons x l ih=>
  intro i n o e h h1 he hb
  simp only[Pj,Bool.and_eq_true,List.all_eq_true]at h
  cases n with
  | zero=>
   simp at h1
   subst h1
   have:=h.1 e he
   simpa [hb] using this
  | succ n=>
   grind
theorem Yg (hti:Ax C.P ti) (h1:BG ti) (ops:Array Oper) (σ:St) (K:St→Prop) (Q:Exit→Act→World→Prop) (a:Act) (w:World)
  (hQ:∀σ a w,K σ→Bq C σ a w→Q .normal a w) (hk:BI ti C.M C.nt ops σ K) (R:Bq C σ a w):
  wpAnyIn (BK C.ro) 0 C.P .any ops Q ops.size (Array.replicate ops.size false) a {w with drawn:=w.drawn+1}:=by
 obtain⟨es,σ',e1,hlex,e3,e4,e5,hlock,hK⟩:=Fs hti h1 ops.toList 0 σ [] rfl hk
 have hB:=(C.M.lock_iff _).1 hlock
 simp only[List.nil_append]at hB
 simp only[Yf,Bool.and_eq_true,Nat.beq_eq]at hB
 obtain⟨hlen,hback,hpairs⟩:=hB
 have hlen:es.length=ops.size:=by simp_all
 have hes:∀(n:Nat) e,es[n]?=some e→ops.toList[n]?=some e.o:=by
  grind
 have ahead:∀(i j:Nat) ei ej,es[i]?=some ei→es[j]?=some ej→i<j→(Ea ops ei.o ej.o || Hj (ei.rd,ei.wr.map (·.1)) (ej.rd,ej.wr.map (·.1)))=true→FU ops.toList i j:=by
  intro i j ei ej hi hj hlt hc
  have m1:=Lw ops.toList (es.map fun e=>(e.rd,e.wr.map (·.1))) 0 i _ _ (hes i ei hi) (by simp[hi];rfl)
  have m2:=Lw ops.toList (es.map fun e=>(e.rd,e.wr.map (·.1))) 0 j _ _ (hes j ej hj) (by simp[hj];rfl)
  simp only[Ve,List.all_eq_true]at hpairs
  have:=hpairs _ m1 _ m2
  simp only[Nat.zero_add]at this
  have hb:Nat.blt i j=true:=by simpa using hlt
  rw[hb,hc]at this
  simp only[Bool.not_true,Bool.false_or]at this
  exact OS ops.toList [] rfl (by simp[List.getD]) j i this
 let s0:=AQ σ.slots
 let h0:=AJ σ.heap
 let base:=σ.next
 let Sof:Array Bool→Nat→Bool:=fun listed k=>listed.getD k false
 have main:∀(fuel:Nat) (listed:Array Bool) (a:Act) (w:World),listed.size=ops.size→
   ((List.range ops.size).filter (fun k=>!Sof listed k)).length=fuel→
   (∀i j,FU ops.toList i j→Sof listed j=true→Sof listed i=true)→
   Rel C (fun n=>base≤n∧∀i,Sof listed i=true→¬(base+32*i≤n∧n<base+32*i+32)) (Db (Sof listed) es 0 s0) (Bw (Sof listed) es 0 h0) a w→
   wpAnyIn (BK C.ro) 0 C.P .any ops Q fuel listed a w:=by
  intro fuel
  induction fuel with
  | zero=>
   intro listed a w hsz hcnt hcl R
   have hall:∀k,k<ops.size→Sof listed k=true:=by
    simp_all
   refine⟨?_,?_⟩
   ·cases hr:Region.ready .any ops listed with
    | nil=>rfl
    | cons j l=>
     have hj:j∈Region.ready .any ops listed:=by rw[hr];simp
     obtain⟨h2,o,ho,_⟩:=mem_ready.1 hj
     grind
   ·refine hQ σ' a w hK ?_
    have:Bq C σ' a w↔Rel C (fun n=>σ'.next≤n) (AQ σ'.slots) (AJ σ'.heap) a w:=Iff.rfl
    rw[this,e3,e4,e5]
    have z1:Db (Sof listed) es 0 s0=UC es s0:=Rv es 0 s0 (fun k hk=>by simp_all)
    have z2:Bw (Sof listed) es 0 h0=UD es h0:=OU es 0 h0 (fun k hk=>by simp_all)
    rw[z1,z2]at R
    refine R.Ae (fun n hn=>?_)
    grind
  | succ fuel ih=>
   intro listed a w hsz hcnt hcl R
   have hstep:∀i,i∈Region.ready .any ops listed→wpOpIn (BK C.ro) 0 C.P ops Q i (wpAnyIn (BK C.ro) 0 C.P .any ops Q fuel (listed.setIfInBounds i true)) a w:=by
    intro i hi
    obtain⟨hi0,o,ho,hedges⟩:=mem_ready.1 hi
    have hlt:i<ops.size:=(Array.getElem?_eq_some_iff.1 ho).1
    have hil:i<listed.size:=by omega
    have hS0:Sof listed i=false:=by
     grind
    have hS1:Sof (listed.setIfInBounds i true) i=true:=by simp[Sof,hil]
    have hSo:∀k,k≠i→Sof (listed.setIfInBounds i true) k=Sof listed k:=by
     intro k hk
     simp[Sof,Array.getElem?_setIfInBounds_ne (Ne.symm hk)]
    obtain⟨en,hen⟩:∃en,es[i]?=some en:=⟨es[i],by simp[hlen,hlt]⟩
    have hEnt:=vT es 0 i s0 h0 en hlex hen
    rw[Nat.zero_add]at hEnt
    obtain⟨ho',hd,hg,hrun,hskip⟩:=hEnt
    rw[ho]at ho'
    obtain rfl:o=en.o:=by simpa using ho'
    -- who writes what i reads or writes
    have order:∀k e,es[k]?=some e→k≠i→(k<i→(Ea ops e.o en.o || Hj (e.rd,e.wr.map (·.1)) (en.rd,en.wr.map (·.1)))=true)→
      (i<k→(Ea ops en.o e.o || Hj (en.rd,en.wr.map (·.1)) (e.rd,e.wr.map (·.1)))=true)→Sof listed k=decide (k<i):=by
     intro k e he hne c1 c2
     by_cases hki:k<i
     ·have ah:=ahead k i e en he hen hki (c1 hki)
      have:Sof listed k=true:=by
       have gen:∀x y,FU ops.toList x y→y=i→Sof listed x=true:=by
        intro x y hxy
        induction hxy with
        | edge hj hee hb hei=>
         grind
        | trans p q ihp ihq=>
         grind
       exact gen k i ah rfl
      simp[this,hki]
     grind
    have slotAgree:∀t,t∈Gc ops en.o→Db (Sof listed) es 0 s0 t=Db (fun k=>decide (k<i)) es 0 s0 t:=by
     intro t ht
     refine Ft es 0 s0 s0 rfl (fun k e he hdst=>?_)
     rw[Nat.zero_add]
     by_cases hki:k=i
     ·subst hki;simp[hS0]
     ·refine order k e he hki (fun _=>?_) (fun _=>?_)
      ·simp[Ea,Lv (x:=t) (a:=e.o.dst.toList) (b:=Gc ops en.o) (by simp[hdst]) ht]
      ·simp[Ea,Lv (x:=t) (a:=Gc ops en.o) (b:=e.o.dst.toList) ht (by simp[hdst])]
    have idAgree:∀x,x∈en.rd→Bw (Sof listed) es 0 h0 x=Bw (fun k=>decide (k<i)) es 0 h0 x:=by
     intro x hx
     refine Es es 0 h0 h0 rfl (fun k e he hw=>?_)
     rw[Nat.zero_add]
     by_cases hki:k=i
     ·subst hki;simp[hS0]
     ·refine order k e he hki (fun _=>?_) (fun _=>?_)
      ·simp[Hj,JU (x:=x) (a:=e.wr.map (·.1)) (b:=en.rd) hw hx]
      ·simp[Hj,JU (x:=x) (a:=en.rd) (b:=e.wr.map (·.1)) hx hw]
    have cl':∀x y,FU ops.toList x y→Sof (listed.setIfInBounds i true) y=true→Sof (listed.setIfInBounds i true) x=true:=by
     intro x y hxy hy
     by_cases hx:x=i
     ·rw[hx];exact hS1
     ·rw[hSo x hx]
      by_cases hyi:y=i
      ·subst hyi
       have gen:∀x y',FU ops.toList x y'→y'=y→Sof listed x=true:=by
        intro x y' hxy
        induction hxy with
        | edge hj hee hb hei=>
         grind
        | trans p q ihp ihq=>
         grind
       exact gen x y hxy rfl
      grind
    have cnt':((List.range ops.size).filter (fun k=>!Sof (listed.setIfInBounds i true) k)).length=fuel:=by
     have:=filter_one (p:=fun k=>!Sof listed k) (p':=fun k=>!Sof (listed.setIfInBounds i true) k) (i:=i) (l:=List.range ops.size) List.nodup_range (by simp[hlt]) (by simp[hS0]) (by simp[hS1])
      (fun k hk=>by simp[hSo k hk])
     omega
    have addS:Db (Sof (listed.setIfInBounds i true)) es 0 s0=CL (Db (Sof listed) es 0 s0) en.o.dst en.val:=by
     funext t
     refine Ru es 0 s0 hen (by simpa using hS0) (by simpa using hS1) (fun k hk=>hSo k (by omega)) (fun hdst k e he hdst' hik=>?_)
     rw[Nat.zero_add]
     have:=order k e he (by omega) (fun h=>absurd h (by omega)) (fun _=>by simp[Ea,Lv (x:=t) (a:=en.o.dst.toList) (b:=e.o.dst.toList) (by simp[hdst]) (by simp[hdst'])])
     grind
    have addH:Bw (Sof (listed.setIfInBounds i true)) es 0 h0=Ay (Bw (Sof listed) es 0 h0) en.wr:=by
     funext x
     refine OT es 0 h0 hen (by simpa using hS0) (by simpa using hS1) (fun k hk=>hSo k (by omega)) (fun hw k e he hw' hik=>?_)
     rw[Nat.zero_add]
     have:=order k e he (by omega) (fun h=>absurd h (by omega)) (fun _=>by simp[Hj,JU (x:=x) (a:=en.wr.map (·.1)) (b:=e.wr.map (·.1)) hw hw'])
     grind
    have next:∀a' w',Rel C (fun n=>(base≤n∧∀i,Sof listed i=true→¬(base+32*i≤n∧n<base+32*i+32))∧¬(base+32*i≤n∧n<base+32*i+32))
      (CL (Db (Sof listed) es 0 s0) en.o.dst en.val) (Ay (Bw (Sof listed) es 0 h0) en.wr) a' w'→wpAnyIn (BK C.ro) 0 C.P .any ops Q fuel (listed.setIfInBounds i true) a' w':=by
     intro a' w' R'
     refine ih _ a' w' (by simp[hsz]) cnt' cl' ?_
     rw[addS,addH]
     refine R'.Ae (fun n hn=>⟨⟨hn.1,fun j hj=>?_⟩,hn.2 i hS1⟩)
     grind
    have hw:Region.wanted en.o (yielded ops a.tmps)=en.run:=by
     unfold Da at hg
     split at hg
     ·rename_i hgn
      simp[Region.wanted,hgn,hg]
     ·rename_i j want hgs
      obtain⟨d,hdj,hsd⟩:=hg
      have hmem:d∈Gc ops en.o:=by simp[Gc,hgs,hdj]
      rw[←slotAgree d hmem]at hsd
      rcases hsd with hsd | ⟨hrf,hsd⟩
      rotate_left
      ·have hy:yielded ops a.tmps j=none:=by
        obtain⟨g,R⟩:=R
        have:=R.slots d
        rw[hsd]at this
        obtain⟨vs,hv,_⟩:=this
        exact Ie hdj ⟨vs,hv⟩
       simp[Region.wanted,hgs,hy,hrf]
      have hy:yielded ops a.tmps j=some (if en.run then want else !want):=by
       obtain⟨g,R⟩:=R
       have:=R.slots d
       rw[hsd]at this
       have hv:=PQ this
       unfold yielded
       rw[hdj]
       have:a.tmps[d]?=some (.bool (if en.run then want else !want)):=by
        rw[Array.getD_eq_getD_getElem?]at hv
        cases h:a.tmps[d]? with
        | none=>rw[h]at hv;simp[undef]at hv
        | some v=>grind
       simp[this]
      simp only[Region.wanted,hgs,hy]
      cases en.run<;>cases want<;>rfl
    unfold wpOpIn
    rw[ho]
    simp only[]
    cases hr:en.run with
    | true=>
     rw[if_pos (by rw[hw,hr])]
     refine IX (hrun hr).1 (Oper.wp_mono next ?_)
     refine (hrun hr).2 _ _ _ a w Q R (fun t ht=>slotAgree t (by simp[Gc,Eb ht])) idAgree (fun k hk=>⟨by omega,fun j hj=>?_⟩) hd
     by_cases hji:j=i
     ·grind
     ·omega
    | false=>
     rw[if_neg (by rw[hw,hr];simp)]
     obtain⟨z1,z2,z3⟩:=hskip hr
     refine⟨fun f _=>CM _ f,next _ w ?_⟩
     rw[z1,z2]
     obtain⟨g,R⟩:=R
     refine⟨g,(R.put hd (v:=.t []) ⟨#[],rfl,rfl,by simp⟩).Ae (fun n hn=>hn.1)⟩
   refine⟨fun hnil=>?_,hstep⟩
   -- not all are listed: the least of those is ready
   exfalso
   have hex:∃k,k<ops.size∧Sof listed k=false:=by
    have:(List.range ops.size).filter (fun k=>!Sof listed k)≠[]:=by grind
    simp_all
   obtain⟨k,⟨hk1,hk2⟩,hmin⟩:=least hex
   have:k∈Region.ready .any ops listed:=by
    refine mem_ready.2 ⟨?_,ops[k],by simp[hk1],fun e he hb=>?_⟩
    ·grind
    ·have hlt:e.on<0+k:=UE ops.toList 0 k ops[k] e hback (by simp[hk1]) (by simpa using he) hb
     grind
   simp_all
 refine main ops.size (Array.replicate ops.size false) a _ (by simp) ?_ ?_ ?_
 ·have:(List.range ops.size).filter (fun k=>!Sof (Array.replicate ops.size false) k)=List.range ops.size:=by
   refine List.filter_eq_self.2 fun k hk=>?_
   simp only[Sof,Array.getD_eq_getD_getElem?,Array.getElem?_replicate]
   split<;>rfl
  rw[this];simp
 ·intro i j _ hj
  exfalso
  revert hj
  simp only[Sof,Array.getD_eq_getD_getElem?,Array.getElem?_replicate]
  split<;>simp
 ·have hz:∀k,Sof (Array.replicate ops.size false) k=false:=by intro k;simp only[Sof,Array.getD_eq_getD_getElem?,Array.getElem?_replicate];split<;>rfl
  rw[JT es 0 s0 (fun k _=>hz k),Hk es 0 h0 (fun k _=>hz k)]
  obtain⟨g,R⟩:=R
  exact⟨g,R.drew.Ae (fun n hn=>hn.1)⟩
theorem jO (hti:Ax C.P ti) (h1:BG ti) (hm:C.P.follows .mixedOrders=true):Fo C (BI ti C.M C.nt):=
 fun _ ops σ K Q a w hQ _ hk R=>wpIn_region_any hm (Yg hti h1 ops σ K Q a w hQ hk R)
end
end Go.AM
namespace Go.AM
open Go Go.RowKit
theorem AY.VN {C:Cx}{F:Nat→Prop}{s:AL}{h:Heap}{g:AO}{a:Act}{w:World}(R:AY C F s h g a w) (t:Nat) (v:AV) (hr:Aj w (Ar (zone g h) C.X) g h v (a.tmps.getD t undef)) (hv:∀f cs rows,v≠ .df f cs rows:=by simp):
  AY C F (CL s (some t) v) h g a w:=by
 have hdf:DQ w (Ar (zone g h) C.X) g C.M.cl (CL s (some t) v DT) a.defers C.D:=by
  simp only[CL]
  split
  ·exact R.defers.un hv
  ·exact R.defers
 refine {R with slots:=fun t'=>?_,defers:=hdf}
 simp only[CL]
 split
 ·subst_vars;exact hr
 ·exact R.slots t'
def Hl {α:Type}:List α→Nat→α→List α
 | [],_,_=>[]
 | x::r,n,y=>match n with
  | 0=>y::r
  | m+1=>x::Hl r m y
theorem JV {α:Type}:∀(l:List α) (n:Nat) (y:α),Hl l n y=l.set n y
 | [],_,_=>rfl
 | _::_,0,_=>rfl
 | x::r,n+1,y=>by simp[Hl,JV r n y]
def JW (ag:Bool) (sz:Nat):CV→Bool
 | .nils a s=>(a==ag)&&Nat.beq s sz
 | _=>false
def Ik (ag:Bool) (sz:Nat):AV→Bool
 | .v (.c c)=>JW ag sz c
 | _=>false
def Wn:List CV→Nat→CV
 | [],_=>.un
 | x::r,n=>match n with
  | 0=>x
  | m+1=>Wn r m
theorem OV {ag:Bool}{sz:Nat}{c:CV}(h:JW ag sz c=true):c= .nils ag sz:=by
 cases c<;>simp[JW]at h
 simp_all
theorem Rx:∀{cs:List CV}{j:Nat}{ag:Bool}{sz:Nat},JW ag sz (Wn cs j)=true→cs[j]?=some (.nils ag sz)
 | [],j,ag,sz,h=>by trivial
 | x::r,0,ag,sz,h=>by simpa using OV (by simpa [Wn] using h)
 | x::r,j+1,ag,sz,h=>by simpa using Rx (cs:=r) (j:=j) (by simpa [Wn] using h)
theorem BM.trans {a b c:St}(h1:BM a b) (h2:BM b c):BM a c:=fun C x w r=>h2 C x w (h1 C x w r)
theorem BM.refl (a:St):BM a a:=fun _ _ _ r=>r
end Go.AM
namespace Go.AM
open Go Go.RowKit
def Yh (c:CV) (j:Id) (n:Nat):CV:=
 match c with
 | .d (.list ag sz rows)=>match Nat.beq rows.length n with
  | true=>.d (.list ag sz rows)
  | false=>.sl j n
 | _=>.sl j n
def CV.sub (x:CV) (i:Id) (c:CV):CV:=
 match x with
 | .ow j=>match Id.beq j i with
  | true=>c
  | false=>.ow j
 | .sl j n=>match Id.beq j i with
  | true=>Yh c j n
  | false=>.sl j n
 | x=>x
def isM (i:Id) (c:CV):CV→Prop
 | .ow j=>j=i
 | .sl j n=>j=i∧∃ag sz rows,c= .d (.list ag sz rows)∧rows.length=n
 | _=>False
def Ry (i:Id) (c:CV):List CV→List CV
 | []=>[]
 | x::r=>x.sub i c::Ry i c r
def V1.sub (i:Id) (c:CV) (x:V1):V1:=
 match x with
 | .d x=>.d x
 | .c x=>match x.sub i c with
  | .d y=>.d y
  | y=>.c y
 | .agg cs=>.agg (Ry i c cs)
def jP (i:Id) (c:CV):List V1→List V1
 | []=>[]
 | x::r=>x.sub i c::jP i c r
def AV.sub (i:Id) (c:CV) (x:AV):AV:=
 match x with
 | .u=>.u
 | .v x=>.v (x.sub i c)
 | .t xs=>.t (jP i c xs)
 | .df f cs rows=>.df f cs rows
def AD.sub (i:Id) (c:CV) (o:AD):AD:=
 match o with
 | .cells cs=>.cells (Ry i c cs)
 | .tree kd ag sz rows foc=>.tree kd ag sz rows (match foc with
  | some x=>some (x.1,Ry i c x.2)
  | none=>none)
 | o=>o
theorem Fu {i:Id}{c:CV}:∀{l:List CV},Ry i c l=l.map (fun x=>x.sub i c)
 | []=>rfl
 | x::l=>by simp[Ry,Fu (l:=l)]
theorem Pk {i:Id}{c:CV}:∀{l:List V1},jP i c l=l.map (V1.sub i c)
 | []=>rfl
 | x::l=>by simp[jP,Pk (l:=l)]
section
variable {C:Cx}{F:Nat→Prop}{s:AL}{h:Heap}{g:AO}{a:Act}{w:World}
section
variable {w':World}{Z Z':Ai}{g':AO}{h':Heap}{i:Id}{c:CV}{v:Value}
theorem Il (hE:∀{x:CV}{v:Value},A0 w Z g h x v→A0 w' Z' g' h' x v) (hc:∀x v,isM i c x→A0 w Z g h x v→A0 w' Z' g' h' c v) {x:CV}(r:A0 w Z g h x v):
  A0 w' Z' g' h' (x.sub i c) v:=by
 unfold CV.sub
 split
 ·rename_i j
  cases e:Id.beq j i with
  | true=>exact hc (.ow j) v (Id.beq_iff.1 e:j=i) r
  | false=>exact hE r
 ·rename_i j n
  cases e:Id.beq j i with
  | true=>
   show A0 w' Z' g' h' (Yh c j n) v
   unfold Yh
   split
   ·rename_i ag sz rows
    cases e2:Nat.beq rows.length n with
    | true=>exact hc (.sl j n) v ⟨Id.beq_iff.1 e,ag,sz,rows,rfl,Nat.eq_of_beq_eq_true e2⟩ r
    | false=>exact hE r
   ·exact hE r
  | false=>exact hE r
 ·exact hE r
theorem OW (hE:∀{x:CV}{v:Value},A0 w Z g h x v→A0 w' Z' g' h' x v) (hD:∀{x:D}{v:Value},AZ w Z x v→AZ w' Z' x v) (hc:∀x v,isM i c x→A0 w Z g h x v→A0 w' Z' g' h' c v) {x:V1}(r:Ag w Z g h x v):
  Ag w' Z' g' h' (x.sub i c) v:=by
 cases x with
 | d x=>exact hD r
 | c x=>
  have:=Il hE hc (x:=x) r
  show Ag w' Z' g' h' (match x.sub i c with | .d y=>.d y | y=>.c y) v
  split
  ·rename_i y hy
   rw[hy]at this
   exact this.1
  ·exact this
 | agg cs=>
  obtain⟨vs,hv,hs,hr⟩:=r
  refine⟨vs,hv,by rw[Fu];simpa using hs,fun j y u hy hu=>?_⟩
  rw[Fu,List.getElem?_map,Option.map_eq_some_iff]at hy
  obtain⟨x,hx,rfl⟩:=hy
  exact Il hE hc (hr j x u hx hu)
theorem Wo (hE:∀{x:CV}{v:Value},A0 w Z g h x v→A0 w' Z' g' h' x v) (hD:∀{x:D}{v:Value},AZ w Z x v→AZ w' Z' x v) (hc:∀x v,isM i c x→A0 w Z g h x v→A0 w' Z' g' h' c v) {x:AV}(r:Aj w Z g h x v):
  Aj w' Z' g' h' (x.sub i c) v:=by
 cases x with
 | u=>trivial
 | v x=>exact OW hE hD hc r
 | t xs=>
  obtain⟨vs,hv,hs,hr⟩:=r
  refine⟨vs,hv,by rw[Pk];simpa using hs,fun j y u hy hu=>?_⟩
  rw[Pk,List.getElem?_map,Option.map_eq_some_iff]at hy
  obtain⟨x,hx,rfl⟩:=hy
  exact OW hE hD hc (hr j x u hx hu)
 | df f cs rows=>trivial
def CE (h:Heap) (i:Id) (c:CV) (nw:Option (Nat×AD)):Heap:=fun j=>
 match nw with
 | some (n,o)=>if j= .loc n then some o else if j=i then some .gone else (h j).map (AD.sub i c)
 | none=>if j=i then some .gone else (h j).map (AD.sub i c)
def CF (g:AO) (i:Id) (nw:Option (Nat×AD)):AO:=
 match nw with
 | some (n,_)=>Ao g (.loc n) (g i)
 | none=>g
theorem R5 {gv:Value}{o:AD}{b p:Nat}:BR gv (o.sub i c) b p↔BR gv o b p:=by
 cases o<;>exact Iff.rfl
theorem Ku {gv:Value}{o:AD}{b:Nat}:Ek gv (o.sub i c) b↔Ek gv o b:=by
 cases o<;>exact Iff.rfl
theorem Yi {o:Option AD}:isLive (o.map (AD.sub i c))=isLive o:=by
 cases o with
 | none=>rfl
 | some o=>cases o<;>rfl
theorem AY.swap (R:AY C F s h g a w) {ob:AD}(hi:h i=some ob) (hob:Bt ob) {nw:Option (Nat×AD)}(hnw:∀n o,nw=some (n,o)→F n∧o=ob) {F':Nat→Prop}(hF:∀k,F' k→F k∧∀n o,nw=some (n,o)→k≠n)
  (hc:(∀b o,Ar (zone (CF g i nw) (CE h i c nw)) C.X b o→Ar (zone g h) C.X b o)→(nw=none→∀b o,BX (g i) b→¬Ar (zone (CF g i nw) (CE h i c nw)) C.X b o)→
   ∀x v,isM i c x→A0 w (Ar (zone g h) C.X) g h x v→A0 w (Ar (zone (CF g i nw) (CE h i c nw)) C.X) (CF g i nw) (CE h i c nw) c v):
  AY C F' (fun t=>(s t).sub i c) (CE h i c nw) (CF g i nw) a w:=by
 -- what lies where
 have hn:∀n o,nw=some (n,o)→g (.loc n)=undef∧h (.loc n)=none:=fun n o e=>R.free n (hnw n o e).1
 have gsm:∀j,(∀n o,nw=some (n,o)→j≠ .loc n)→CF g i nw j=g j:=by
  intro j hj
  unfold CF
  split
  ·rename_i n o
   simp[Ao,hj n o rfl]
  ·rfl
 have gne:∀j,g j≠undef→CF g i nw j=g j:=fun j hj=>gsm j fun n o e hjn=>hj (hjn▸(hn n o e).1)
 have cases_:∀j o,CE h i c nw j=some o→(∃n,nw=some (n,o)∧j= .loc n∧o=ob∧CF g i nw j=g i)∨(j=i∧o= .gone)∨(j≠i∧∃o0,h j=some o0∧o=o0.sub i c∧CF g i nw j=g j):=by
  intro j o hj
  have other:(∀n o,nw=some (n,o)→j≠ .loc n)→(if j=i then some AD.gone else (h j).map (AD.sub i c))=some o→(j=i∧o= .gone)∨(j≠i∧∃o0,h j=some o0∧o=o0.sub i c∧CF g i nw j=g j):=by
   intro hj' hj
   split at hj
   ·simp_all
   ·rename_i hne
    obtain⟨o0,h1,h2⟩:=Option.map_eq_some_iff.1 hj
    simp_all
  unfold CE at hj
  split at hj
  ·rename_i n o'
   split at hj
   ·rename_i hjn
    cases hj
    subst hjn
    exact .inl ⟨n,rfl,rfl,(hnw n _ rfl).2,by simp[CF,Ao]⟩
   simp_all
  simp_all
 have hz1:∀j o b p,CE h i c nw j=some o→BR (CF g i nw j) o b p→∃j' o',h j'=some o'∧BR (g j') o' b p∧(j'=j∨j'=i):=by
  intro j o b p hj hb
  rcases cases_ j o hj with⟨n,_,_,rfl,hg⟩ | ⟨rfl,rfl⟩ | ⟨_,o0,h1,rfl,hg⟩
  ·grind
  ·exact hb.elim
  ·rw[hg]at hb
   exact⟨j,o0,h1,R5.1 hb,.inl rfl⟩
 have hz:∀b o,Ar (zone (CF g i nw) (CE h i c nw)) C.X b o→Ar (zone g h) C.X b o:=by
  rintro b p (⟨j,o,hj,hb⟩ | hx)
  ·obtain⟨j',o',h1,h2,_⟩:=hz1 j o b p hj hb
   exact .inl ⟨j',o',h1,h2⟩
  ·exact .inr hx
 have hgone:nw=none→∀b o,BX (g i) b→¬Ar (zone (CF g i nw) (CE h i c nw)) C.X b o:=by
  rintro e b p hb (⟨j,o,hj,h1⟩ | hx)
  ·rcases cases_ j o hj with⟨n,e',_⟩ | ⟨rfl,rfl⟩ | ⟨hne,o0,h2,rfl,hg⟩
   ·rw[e]at e';cases e'
   ·exact h1.elim
   ·rw[hg]at h1
    exact hne (R.heap.sep j i o0 ob b h2 hi (R5.1 h1).GH (hob.GH hb))
  ·exact R.heap.apart i _ b p hi (hob.GH hb) hx
 have E:GJ w (Ar (zone g h) C.X) g h w (Ar (zone (CF g i nw) (CE h i c nw)) C.X) (CF g i nw) (CE h i c nw):=by
  refine⟨fun b o u hu hx=>⟨hu,fun hy=>hx (hz b o hy)⟩,fun j b hb=>gne j (by rw[hb];simp[undef]),fun j q hq=>gne j (by rw[hq];simp[undef]),fun j hj=>?_,fun j k sz e hj hk=>?_,fun j hj=>?_,fun j hj hl=>?_⟩
  ·rw[gne j (fun e=>by rw[e]at hj;exact hj)];exact hj
  ·have e1:=gne j (fun e=>by rw[e]at hj;exact hj)
   rcases cases_ j _ hk with⟨n,e',rfl,_,_⟩ | ⟨_,h2⟩ | ⟨_,o0,h2,h3,_⟩
   ·rw[(hn n _ e').1]at hj;exact hj.elim
   ·cases h2
   ·cases o0<;>simp[AD.sub]at h3
    simp_all
  ·rw[gne j (fun e=>BS (e▸hj))];exact hj
  ·refine⟨?_,by rw[gne j (fun e=>BS (e▸hj))]⟩
   cases ho:CE h i c nw j with
   | none=>rw[ho]at hl;cases hl
   | some o=>
    rw[ho]at hl
    rcases cases_ j o ho with⟨n,e',rfl,_,_⟩ | ⟨_,rfl⟩ | ⟨_,o0,h2,rfl,_⟩
    ·rw[(hn n _ e').1]at hj;exact (BS hj).elim
    ·cases hl
    ·rw[h2,←Yi (i:=i) (c:=c)];exact hl
 have hcc:=hc hz hgone
 have objs:∀j o,CE h i c nw j=some o→BJ w (Ar (zone (CF g i nw) (CE h i c nw)) C.X) (CF g i nw) (CE h i c nw) o (CF g i nw j):=by
  intro j o hj
  rcases cases_ j o hj with⟨n,_,_,rfl,hg⟩ | ⟨rfl,rfl⟩ | ⟨_,o0,h1,rfl,hg⟩
  ·rw[hg]
   exact (R.heap.objs i _ hi).zN E fun _ _=>rfl
  ·trivial
  ·rw[hg]
   cases o0 with
   | cells cs=>
    obtain⟨b,cc,e,h2,h3,h4,h5⟩:=R.heap.objs j _ h1
    refine⟨b,cc,e,h2,h3,by rw[Fu];simpa using h4,fun q x u hx hu=>?_⟩
    rw[Fu,List.getElem?_map,Option.map_eq_some_iff]at hx
    obtain⟨y,hy,rfl⟩:=hx
    exact Il E.J8 hcc (h5 q y u hy hu)
   | tree kd ag sz rows foc=>
    cases foc with
    | none=>exact (R.heap.objs j _ h1).zN E fun _ _=>rfl
    | some x=>
     obtain⟨k,cs⟩:=x
     obtain⟨ht,h0,hf,xs,hx,hcs,U,T,p1,p2,p3,p4,p5⟩:=R.heap.objs j _ h1
     have sk:∀{i':Nat},(∀k' cs',(some (k,Ry i c cs):Option (Nat×List CV))=some (k',cs')→i'≠k')→∀k' cs',(some (k,cs):Option (Nat×List CV))=some (k',cs')→i'≠k':=by
      grind
     have sk':∀{i':Nat},(∀k' cs',(some (k,cs):Option (Nat×List CV))=some (k',cs')→i'≠k')→∀k' cs',(some (k,Ry i c cs):Option (Nat×List CV))=some (k',cs')→i'≠k':=by
      grind
     refine⟨ht,h0,hf,xs,hx,fun k' cs' e=>?_,U,T,fun i' r jj d hi hr hd=>⟨(p1 i' r jj d (sk hi) hr hd).1,(p1 i' r jj d (sk hi) hr hd).2.map E.Fg id⟩,fun i' jj b hb=>⟨sk' (p2 i' jj b hb).1,(p2 i' jj b hb).2⟩,p3,p4,p5⟩
     cases e
     obtain⟨g1,g2,g3⟩:=hcs k cs rfl
     refine⟨g1,by rw[Fu];simpa using g2,fun q x u hx hu=>?_⟩
     rw[Fu,List.getElem?_map,Option.map_eq_some_iff]at hx
     obtain⟨y,hy,rfl⟩:=hx
     exact Il E.J8 hcc (g3 q y u hy hu)
   | _=>exact (R.heap.objs j _ h1).zN E fun _ _=>rfl
 have hsep:∀j j' oi oj b,CE h i c nw j=some oi→CE h i c nw j'=some oj→Ek (CF g i nw j) oi b→Ek (CF g i nw j') oj b→j=j':=by
  intro j j' oi oj b h1 h2 h3 h4
  rcases cases_ j oi h1 with⟨n,e,rfl,rfl,hg⟩ | ⟨rfl,rfl⟩ | ⟨hne,o0,h5,rfl,hg⟩
  ·rcases cases_ j' oj h2 with⟨n',e',rfl,_,_⟩ | ⟨rfl,rfl⟩ | ⟨hne',o0',h5',rfl,hg'⟩
   ·grind
   ·exact h4.elim
   ·rw[hg]at h3
    rw[hg']at h4
    exact absurd (R.heap.sep i j' _ _ b hi h5' h3 (Ku.1 h4)).symm hne'
  ·exact h3.elim
  ·rw[hg]at h3
   rcases cases_ j' oj h2 with⟨n',e',rfl,rfl,hg'⟩ | ⟨rfl,rfl⟩ | ⟨hne',o0',h5',rfl,hg'⟩
   ·rw[hg']at h4
    exact absurd (R.heap.sep j i _ _ b h5 hi (Ku.1 h3) h4) hne
   ·exact h4.elim
   ·rw[hg']at h4
    exact R.heap.sep j j' _ _ b h5 h5' (Ku.1 h3) (Ku.1 h4)
 have RS:=R.step (F':=F') (fun _=>True) E ⟨rfl,rfl,rfl,Nat.le_refl _,fun _ _ _=>rfl,fun _ _ _ hu _=>hu⟩ (fun j hj=>absurd trivial hj) (fun _ _ _ hj=>absurd trivial hj) (fun j o _ hj=>objs j o hj)
  (fun j o b p _ hj hb=>let ⟨j',o',h1,h2,_⟩:=hz1 j o b p hj hb;.inl ⟨j',o',trivial,h1,h2⟩) (fun j j' oi oj b _ _ h1 h2 h3 h4=>hsep j j' oi oj b h1 h2 h3 h4) (fun j _=>by rw[gsm (.ext j) (by rintro n o _ e;cases e)];exact .refl _)
  (fun k hk=>by
   obtain⟨h1,h2⟩:=hF k hk
   obtain⟨h3,h4⟩:=R.free k h1
   have hne:∀n o,nw=some (n,o)→Id.loc k≠ .loc n:=fun n o e h=>h2 n o e (by cases h;rfl)
   refine⟨(gsm _ hne).trans h3,?_⟩
   cases ho:CE h i c nw (.loc k)with
   | none=>rfl
   | some o=>
    grind)
 have hdf:DQ w (Ar (zone (CF g i nw) (CE h i c nw)) C.X) (CF g i nw) C.M.cl ((s DT).sub i c) a.defers C.D:=by
  cases he:s DT with
  | df f cs rows=>rw[←he];have:=RS.defers;rw[he]at this ⊢;exact this
  | _=>exact R.defers.un (by simp[AV.sub])
 exact {RS with slots:=fun t=>Wo E.J8 E.Fg hcc (R.slots t),defers:=hdf}
def R6 (i:Id) (c:CV):List (Nat×AV)→List (Nat×AV)
 | []=>[]
 | (t,v)::r=>(t,v.sub i c)::R6 i c r
def Lx (i:Id) (c:CV):List (Id×AD)→List (Id×AD)
 | []=>[]
 | (j,o)::r=>(j,o.sub i c)::Lx i c r
theorem Hm {i:Id}{c:CV}:∀{l:List (Nat×AV)}{t:Nat},AQ (R6 i c l) t=(AQ l t).sub i c
 | [],t=>rfl
 | (k,v)::r,t=>by
  show (match Nat.beq k t with | true=>v.sub i c | false=>AQ (R6 i c r) t)=(match Nat.beq k t with | true=>v | false=>AQ r t).sub i c
  cases Nat.beq k t with
  | true=>rfl
  | false=>exact Hm
theorem Hn {i:Id}{c:CV}:∀{l:List (Id×AD)}{j:Id},AJ (Lx i c l) j=(AJ l j).map (AD.sub i c)
 | [],j=>rfl
 | (k,v)::r,j=>by
  show (match Id.beq k j with | true=>some (v.sub i c) | false=>AJ (Lx i c r) j)=(match Id.beq k j with | true=>some v | false=>AJ r j).map (AD.sub i c)
  cases Id.beq k j with
  | true=>rfl
  | false=>exact Hn
def R7 (i:Id) (x:D) (σ:St):St:=⟨R6 i (.d x) σ.slots,Cj (Lx i (.d x) σ.heap) i .gone,σ.next⟩
def UF (i:Id) (o:AD) (σ:St):St:=⟨R6 i (.ow (.loc σ.next)) σ.slots,Cj (Cj (Lx i (.ow (.loc σ.next)) σ.heap) i .gone) (.loc σ.next) o,σ.next+32⟩
theorem Wq {σ:St}{x:D}{ob:AD}(hi:AJ σ.heap i=some ob) (hob:Bt ob)
  (hr:∀{C:Cx} {g:AO} {w:World},C0 w C.X g (AJ σ.heap)→(∀b o,Ar (zone g (CE (AJ σ.heap) i (.d x) none)) C.X b o→Ar (zone g (AJ σ.heap)) C.X b o)→(∀b o,BX (g i) b→¬Ar (zone g (CE (AJ σ.heap) i (.d x) none)) C.X b o)→
   ∀y v,isM i (.d x) y→A0 w (Ar (zone g (AJ σ.heap)) C.X) g (AJ σ.heap) y v→AZ w (Ar (zone g (CE (AJ σ.heap) i (.d x) none)) C.X) x v∧x.isAgg=false):BM σ (R7 i x σ):=by
 rintro C a w ⟨g,R⟩
 have R2:=R.swap (F':=fun n=>σ.next≤n) hi hob (c:=.d x) (nw:=none) (fun _ _ e=>by cases e) (fun k hk=>⟨hk,fun _ _ e=>by cases e⟩) (fun hz hg y v hm r=>hr R.heap hz (hg rfl) y v hm r)
 refine⟨g,?_⟩
 have e1:AQ (R7 i x σ).slots=fun t=>(AQ σ.slots t).sub i (.d x):=by funext t;exact Hm
 have e2:AJ (R7 i x σ).heap=CE (AJ σ.heap) i (.d x) none:=by
  funext j
  show AJ (Cj (Lx i (.d x) σ.heap) i .gone) j=_
  rw[CD]
  simp only[AK,CE,Hn]
 show AY C (fun n=>σ.next≤n) (AQ (R7 i x σ).slots) (AJ (R7 i x σ).heap) g a w
 rw[e1,e2]
 exact R2
theorem R8 {σ:St}{kd:Kd}{ag:Bool}{sz:Nat}{rows:List D}(hi:AJ σ.heap i=some (.tree kd ag sz rows none)) (hk:kd= .row∨kd= .flat):BM σ (R7 i (.list ag sz rows) σ):=by
 refine Wq hi trivial fun RH hz hg y v hm r=>⟨?_,rfl⟩
 rename_i C g w
 have ho:=RH.objs i _ hi
 have hv:v=gval (g i):=by
  cases y<;>first | exact (hm:False).elim | skip
  ·rename_i j n
   obtain⟨rfl,_⟩:=hm
   obtain⟨⟨b,hb⟩,_⟩:=r
   obtain⟨vs,_,h1,_⟩:=ho.1
   rw[hb]at h1;cases h1
  ·rename_i j
   obtain rfl:j=i:=hm
   exact r.2.2 (by rw[hi];rfl)
 rw[hv]
 obtain⟨ht,h0,hf,xs,hx,_,U,T,h1,h2,h3,h4,h5⟩:=ho
 rcases hk with rfl | rfl
 ·exact ((LJ (show IK .row ag sz rows=some (.list ag sz rows)from rfl)).1 (RH.objs i _ hi)).2.toD hg
 ·obtain⟨e,hl,hx⟩:=hx
  rcases hx with⟨hv,hn⟩ | ⟨q,cap,cur,hv,_,hh,hnc,hcm,hcs,htake⟩
  ·have:rows=[]:=List.eq_nil_of_length_eq_zero hn
   subst this
   rw[hv]
   exact .list ag sz [] none 0 0 0 (fun _ _=>undef) (Nat.le_refl _) (Nat.zero_le _) (by simp) (by simp) (by simp) (by simp)
  ·rw[hv]
   refine .list ag sz rows _ cap q 0 U hnc hcm hf (fun _=>rfl) (fun k r j c hr hc=>?_) (fun k r j c hr hc=>?_)
   ·obtain⟨p1,_⟩:=h1 k r j c (fun _ _ h=>by cases h) hr hc
    refine⟨?_,fun hz'=>hg q _ ((h5 q).2 (.inl (by rw[hv];rfl))) hz'⟩
    rw[←htake,List.getElem?_take]at p1
    split at p1
    ·rw[Nat.zero_add]
     simpa [World.cell?,hh] using p1
    ·cases p1
   ·obtain⟨_,p2⟩:=h1 k r j c (fun _ _ h=>by cases h) hr hc
    exact (((Cg.fz rfl).1 p2).1.1).mono fun b o u hu hn=>⟨hu,fun hz'=>hn (hz b o hz')⟩
theorem Wr {σ:St}{kd:Kd}{ag:Bool}{sz:Nat}{rows:List D}(hi:AJ σ.heap i=some (.tree kd ag sz rows none)):BM σ (UF i (.tree kd ag sz rows none) σ):=by
 rintro C a w ⟨g,R⟩
 have hn:=R.free σ.next (Nat.le_refl _)
 have R2:=R.swap (F':=fun n=>σ.next+32≤n) hi trivial (c:=.ow (.loc σ.next)) (nw:=some (σ.next,.tree kd ag sz rows none)) (fun _ _ e=>by simp_all) (fun k hk=>⟨by omega,fun _ _ e=>by cases e;omega⟩) (fun hz hg y v hm r=>by
  have ho:=R.heap.objs i _ hi
  have hv:v.oneCell'=true∧v=gval (g i):=by
   cases y<;>first | exact (hm:False).elim | skip
   ·rename_i j n
    obtain⟨rfl,_⟩:=hm
    simp_all
   ·rename_i j
    obtain rfl:j=i:=hm
    exact⟨r.1,r.2.2 (by rw[hi];rfl)⟩
  have e:CF g i (some (σ.next,.tree kd ag sz rows none)) (.loc σ.next)=g i:=by simp[CF,Ao]
  refine⟨hv.1,by rw[e];exact ho.1,fun _=>by rw[e];exact hv.2⟩)
 refine⟨CF g i (some (σ.next,.tree kd ag sz rows none)),?_⟩
 have e1:AQ (UF i (.tree kd ag sz rows none) σ).slots=fun t=>(AQ σ.slots t).sub i (.ow (.loc σ.next)):=by funext t;exact Hm
 have e2:AJ (UF i (.tree kd ag sz rows none) σ).heap=CE (AJ σ.heap) i (.ow (.loc σ.next)) (some (σ.next,.tree kd ag sz rows none)):=by
  funext j
  show AJ (Cj (Cj (Lx i (.ow (.loc σ.next)) σ.heap) i .gone) (.loc σ.next) (.tree kd ag sz rows none)) j=_
  rw[CD,CD]
  simp only[AK,CE,Hn]
 show AY C (fun n=>σ.next+32≤n) (AQ (UF i (.tree kd ag sz rows none) σ).slots) (AJ (UF i (.tree kd ag sz rows none) σ).heap) _ a w
 rw[e1,e2]
 exact R2
end
end
end Go.AM
namespace Go.AM
open Go Go.RowKit
section
variable {C:Cx}{F:Nat→Prop}{s:AL}{h:Heap}{g:AO}{a:Act}{w:World}{sz:Nat}
theorem AY.pM (R:AY C F s h g a w) {n:Nat}(hf:F n) (ag:Bool) (hsz:0<sz):
  ∃g',AY C (fun k=>F k∧k≠n) s (AK h (.loc n) (.tree .row ag sz [] none)) g' a w∧A0 w (Ar (zone g' (AK h (.loc n) (.tree .row ag sz [] none))) C.X) g' (AK h (.loc n) (.tree .row ag sz [] none)) (.ow (.loc n)) (.slice none 0 0):=
 R.Q2 (T0:=[]) (by simp) hf ⟨rfl,rfl,rfl,Nat.le_refl _⟩ (fun _ _ _=>rfl) hsz (⟨0,World.ownsRow_nil w 0 0 sz⟩:Holds w .row sz (.slice none 0 0) ([]:List D).length []) (D6.nil w ag sz) (fun b hb=>hb.elim) (by simp[blk]) (by simp)
def Im (t:Nat) (ag:Bool) (sz:Nat) (σ:St):St:=
 ⟨(t,.v (.c (.ow (.loc σ.next))))::σ.slots,Cj σ.heap (.loc σ.next) (.tree .row ag sz [] none),σ.next+32⟩
variable {t:Nat}{ag:Bool}{σ:St}
theorem Nr (hsz:Nat.blt 0 sz=true) (ht:AQ σ.slots t= .v (.c (.nils ag sz))):BM σ (Im t ag sz σ):=by
 rintro C a w ⟨g,R⟩
 have hv:=R.slots t
 rw[ht]at hv
 have hv:a.tmps.getD t undef= .slice none 0 0:=hv
 obtain⟨g',R',hl⟩:=R.pM (n:=σ.next) (Nat.le_refl _) ag (sz:=sz) (by simp_all)
 have R2:=(R'.VN t (.v (.c (.ow (.loc σ.next)))) (by rw[hv];exact hl)).Ae (F':=fun n=>σ.next+32≤n) (fun n hn=>⟨by omega,by omega⟩)
 refine⟨g',?_⟩
 simp only[Im,Ba,CD]
 exact R2
def Ip (i:Id) (j:Nat) (ag:Bool) (sz:Nat) (σ:St):St:=
 match AJ σ.heap i with
 | some (.cells cs)=>⟨σ.slots,Cj (Cj σ.heap (.loc σ.next) (.tree .row ag sz [] none)) i (.cells (Hl cs j (.ow (.loc σ.next)))),σ.next+32⟩
 | _=>σ
variable {i:Id}
theorem Nt {j:Nat}{cs:List CV}(hsz:Nat.blt 0 sz=true) (hi:AJ σ.heap i=some (.cells cs)) (hj:cs[j]?=some (.nils ag sz)):BM σ (Ip i j ag sz σ):=by
 rintro C a w ⟨g,R⟩
 obtain⟨g',R',hl⟩:=R.pM (n:=σ.next) (Nat.le_refl _) ag (sz:=sz) (by simp_all)
 have hne:i≠ .loc σ.next:=by
  rintro rfl
  have:=(R.free σ.next (Nat.le_refl _)).2
  simp_all
 have hi':AK (AJ σ.heap) (.loc σ.next) (.tree .row ag sz [] none) i=some (.cells cs):=by simp[AK,hne,hi]
 obtain⟨b,c,et,hb,hh,hsz2,hr⟩:=R'.heap.objs i _ hi'
 have R2:=R'.store (cs':=cs.set j (.ow (.loc σ.next))) hi' hb hh (c':=c) (by simp[hsz2]) (fun k x u hx hu=>by
  by_cases hk:k=j
  ·subst hk
   have hlt:k<cs.length:=(List.getElem?_eq_some_iff.1 hj).1
   rw[List.getElem?_set_self hlt]at hx
   cases hx
   have:=hr k _ u hj hu
   rw[show u=_ from this]
   exact hl
  grind)
 have hw:w.setRow b c=w:=setRow_self w b c _ _ hh
 rw[hw]at R2
 have R3:=R2.Ae (F':=fun n=>σ.next+32≤n) (fun n hn=>⟨by omega,by omega⟩)
 refine⟨g',?_⟩
 simp only[Ip,hi,CD,JV]
 exact R3
theorem AY.flatten (R:AY C F s h g a w) {rows:List D}(hi:h i=some (.tree .row ag sz rows none)):
  ∃g',AY C F s (AK h i (.tree .flat ag sz rows none)) g' a w:=by
 obtain⟨ht,h0,hf,xs,hx,_,U,T,h1,h2,h3,h4,h5⟩:=R.heap.objs i _ hi
 obtain⟨gv,gt,gg,gb⟩:=Xw (gval (g i)) (blk (gval (g i))).toList (fun b=>blk (gval (g i))=some b) (fun b hb=>by simp[hb])
 have hsub:∀b,BX gv b→BX (g i) b:=fun b hb=>(h5 b).2 (.inl ((gb b).1 hb))
 have hX:∀b o,BX (g i) b→¬BX gv b→¬Ar (zone (Ao g i gv) (AK h i (.tree .flat ag sz rows none))) C.X b o:=by
  rintro b o hb hnb (⟨j,ob,hj,h6⟩ | hx)
  ·by_cases hji:j=i
   ·subst hji
    simp only[AK,if_pos,Option.some.injEq]at hj
    subst hj
    have h6:BX (Ao g j gv j) b:=h6
    simp only[Ao,if_pos]at h6
    exact hnb h6
   ·simp only[AK,if_neg hji]at hj
    simp only[Ao,if_neg hji]at h6
    exact hji (R.heap.sep j i ob _ b hj hi h6.GH hb)
  ·exact R.heap.apart i _ b o hi hb hx
 refine⟨Ao g i gv,R.LB (fun j=>j=i) (fun j hj=>by simp[AK,Ao,hj]) ?_ ?_ ?_ ?_ ?_ ?_ ?_ ?_⟩
 ·rintro j rfl
  exact .inr (.inl ⟨ht,by simpa [Ao] using gt,by simp[Ao,gg]⟩)
 ·rintro j rfl _ _
  rw[hi];rfl
 ·rintro j ob rfl ho
  simp only[AK,if_pos,Option.some.injEq]at ho
  grind
 ·rintro j o rfl ho EC ED
  simp only[AK,if_pos,Option.some.injEq]at ho
  subst ho
  have e1:Ao g j gv j=gv:=by simp[Ao]
  rw[e1]
  refine Pb gt h0 hf (xs:=xs) (by rw[gg];exact hx) (fun k r q c hr hc=>?_) (fun b=>by rw[gb,gg])
  obtain⟨p1,p2⟩:=h1 k r q c (fun _ _ h=>by cases h) hr hc
  refine⟨_,p1,((Cg.own rfl).1 p2).toD fun b o hb=>hX b o ((h5 b).2 (.inr ⟨k,q,hb⟩)) fun hb'=>h3 k q b hb ((gb b).1 hb')⟩
 ·rintro j ob b rfl ho hb
  simp only[AK,if_pos,Option.some.injEq]at ho
  subst ho
  have hb:BX (Ao g j gv j) b:=hb
  simp only[Ao,if_pos]at hb
  exact⟨j,_,rfl,hi,fun o=>hsub b hb⟩
 ·grind
 ·rintro j rfl
  exact .inr ⟨ht,by simpa [Ao] using gt,by simp[Ao,gg]⟩
 ·intro n hn
  have:=R.free n hn
  have hne:Id.loc n≠i:=by grind
  exact⟨by simp[Ao,hne,this.1],by simp[AK,hne,this.2]⟩
theorem Pm {rows:List D}(hi:AJ σ.heap i=some (.tree .row ag sz rows none)):BM σ ⟨σ.slots,Cj σ.heap i (.tree .flat ag sz rows none),σ.next⟩:=by
 rintro C a w ⟨g,R⟩
 obtain⟨g',R'⟩:=R.flatten hi
 refine⟨g',?_⟩
 rw[CD]
 exact R'
theorem AY.drop (R:AY C F s h g a w) {ob:AD}(hi:h i=some ob):AY C F s (AK h i .gone) g a w:=by
 refine R.LB (fun j=>j=i) (fun j hj=>by simp[AK,hj]) ?_ ?_ ?_ ?_ ?_ ?_ ?_ ?_
 ·simp_all
 ·rintro j rfl _ hl
  simp[AK,isLive]at hl
 ·rintro j ob' rfl ho
  simp[AK]at ho
  exact .inr ho.symm
 ·rintro j o rfl ho _ _
  simp[AK]at ho
  subst ho
  trivial
 ·rintro j ob' b rfl ho hb
  simp[AK]at ho
  subst ho
  exact hb.elim
 ·simp_all
 ·intro j _
  exact .refl _
 ·intro n hn
  have:=R.free n hn
  have hne:Id.loc n≠i:=by grind
  exact⟨this.1,by simp[AK,hne,this.2]⟩
def Fv (h:Heap):List Id→Option (List FC)
 | []=>some []
 | i::l=>match h i with
  | some (.cells cs)=>(match cs with
   | [.d x]=>(match Fv h l with
    | some r=>some (.d x::r)
    | none=>none)
   | [.ptr j 0]=>(match Fv h l with
    | some r=>some (.p j::r)
    | none=>none)
   | _=>none)
  | _=>none
def vU (h:Heap) (i:Id):FC→Prop
 | .d x=>h i=some (.cells [.d x])
 | .p j=>h i=some (.cells [.ptr j 0])
 | .h=>False
theorem JX {h:Heap}:∀{l:List Id}{cs:List FC},Fv h l=some cs→l.length=cs.length∧∀(j:Nat) i c,l[j]?=some i→cs[j]?=some c→vU h i c
 | [],cs,e=>by simp[Fv]at e;subst e;simp
 | i::l,cs,e=>by
  unfold Fv at e
  split at e
  ·rename_i c0 hi
   split at e
   ·rename_i x
    split at e
    ·rename_i r hr
     cases e
     obtain⟨h1,h2⟩:=JX hr
     refine⟨by simp[h1],fun j i' c h3 h4=>?_⟩
     cases j with
     | zero=>simp at h3 h4;subst h3;subst h4;exact hi
     | succ j=>grind
    ·cases e
   ·rename_i x
    split at e
    ·rename_i r hr
     cases e
     obtain⟨h1,h2⟩:=JX hr
     refine⟨by simp[h1],fun j i' c h3 h4=>?_⟩
     cases j with
     | zero=>simp at h3 h4;subst h3;subst h4;exact hi
     | succ j=>grind
    ·cases e
   ·cases e
  ·cases e
theorem AY.WG:∀(l:List Id) {h:Heap},AY C F s h g a w→l.Nodup→(∀i∈l,∃ob,h i=some ob)→AY C F s (Ay h (Ah l)) g a w
 | [],_,R,_,_=>R
 | i::l,h,R,hn,hl=>by
  obtain⟨ob,hi⟩:=hl i (by simp)
  refine AY.WG l (R.drop hi) (List.nodup_cons.1 hn).2 fun j hj=>?_
  have hne:j≠i:=by grind
  simp only[AK,if_neg hne]
  simp_all
variable {cs:List FC}{f:Nat}
theorem AY.cloz (R:AY C F s h g a w) {Ch:List Id}(ht:s t= .v (.c (.fn f Ch))) (hn:Ch.Nodup) (hb:Fv h Ch=some cs):
  AY C F (CL s (some t) (.v (.c (.fz f cs)))) (Ay h (Ah Ch)) g a w:=by
 obtain⟨hl,hbx⟩:=JX hb
 have hob:∀(j:Nat) i,Ch[j]?=some i→∃c,cs[j]?=some c∧vU h i c:=by
  intro j i hj
  have hlt:=(List.getElem?_eq_some_iff.1 hj).1
  exact⟨cs[j]'(by omega),List.getElem?_eq_getElem (by omega),hbx j i _ hj (List.getElem?_eq_getElem (by omega))⟩
 have hsome:∀i∈Ch,∃ob,h i=some ob:=by
  intro i hi
  obtain⟨j,hj⟩:=List.mem_iff_getElem?.1 hi
  obtain⟨c,_,hc⟩:=hob j i hj
  cases c with
  | d x=>exact⟨_,hc⟩
  | p k=>exact⟨_,hc⟩
  | h=>exact hc.elim
 have R':=R.WG Ch hn hsome
 refine R'.VN t _ ?_
 have hv:=R.slots t
 rw[ht]at hv
 obtain⟨hv,hcp⟩:=hv
 refine⟨Ch.map (fun i=>B6 (g i) 0),hv,by simp[hl],fun j c p hc hp=>?_⟩
 rw[List.getElem?_map,Option.map_eq_some_iff]at hp
 obtain⟨i,hi,rfl⟩:=hp
 have hmem:=List.mem_of_getElem? hi
 have hbox:=hbx j i c hi hc
 have main:∀x:CV,h i=some (.cells [x])→∃b u,B6 (g i) 0= .pointer (some ⟨b,0,none⟩)∧w.cell? ⟨b,0,none⟩=some u∧¬Ar (zone g (Ay h (Ah Ch))) C.X b 0∧A0 w (Ar (zone g h) C.X) g h x u:=by
  intro x hx
  obtain⟨b,c,e,hg,hh,hs,hr⟩:=R.heap.objs i _ hx
  have hs:c.size=1:=hs
  refine⟨b,c[0]'(by omega),by rw[hg];rfl,?_,?_,hr 0 x _ rfl (by simp)⟩
  ·rw[cell_of_row w b 0 c e (0,0) hh]
   simp
  ·have hob:Ek (g i) (.cells [x]) b:=by rw[hg];exact .inl rfl
   rintro (⟨j',ob,hj',hz⟩ | hx')
   ·rw[HD]at hj'
    split at hj'
    ·cases hj';exact hz.elim
    ·rename_i hnm
     exact hnm (R.heap.sep i j' _ ob b hx hj' hob hz.GH▸hmem)
   ·exact R.heap.apart i _ b 0 hx hob hx'
 have hz:∀b o,Ar (zone g (Ay h (Ah Ch))) C.X b o→Ar (zone g h) C.X b o:=by
  rintro b o (⟨j',ob,hj',hz⟩ | hx)
  ·rw[HD]at hj'
   split at hj'
   ·cases hj';exact hz.elim
   ·exact .inl ⟨j',ob,hj',hz⟩
  ·exact .inr hx
 cases c with
 | d x=>
  obtain⟨b,u,h1,h2,h3,h4⟩:=main _ hbox
  exact⟨b,u,h1,h2,h3,h4.1.mono (fun b o u hu hn=>⟨hu,fun hy=>hn (hz b o hy)⟩),h4.2⟩
 | p k=>
  obtain⟨b,u,h1,h2,h3,h4⟩:=main _ hbox
  exact⟨b,u,h1,h2,h3,h4⟩
 | h=>exact hbox.elim
theorem Ws {Ch:List Id}(ht:AQ σ.slots t= .v (.c (.fn f Ch))) (hn:nodupB Ch=true) (hb:Fv (AJ σ.heap) Ch=some cs):
  BM σ ⟨(t,.v (.c (.fz f cs)))::σ.slots,Cb σ.heap (Ah Ch),σ.next⟩:=by
 rintro C a w ⟨g,R⟩
 refine⟨g,?_⟩
 have:=R.cloz ht (B1.1 hn) hb
 rw[CZ,Ba]
 exact this
def Kv (t f:Nat) (cs:List FC) (σ:St):St:=⟨(t,.v (.c (.ow (.loc σ.next))))::σ.slots,Cj σ.heap (.loc σ.next) (.fnl f cs []),σ.next+32⟩
theorem Pn (ht:AQ σ.slots t= .v (.c (.nils ag sz))):BM σ (Kv t f cs σ):=by
 rintro C a w ⟨g,R⟩
 have hv:=R.slots t
 rw[ht]at hv
 have hv:a.tmps.getD t undef= .slice none 0 0:=hv
 obtain⟨g',R',hl⟩:=R.JH (T0:=[]) (by simp) (n:=σ.next) (Nat.le_refl _) ⟨rfl,rfl,rfl,Nat.le_refl _⟩ (fun _ _ _=>rfl) (ob:=.fnl f cs []) (fun _ _ _ h=>h) (v:=.slice none 0 0) (fun _=>False) [] (fun _ h=>h.elim) (fun _ h=>h.elim) rfl
  (fun Z' g' h' gv gt gg gb E=>⟨gt,fun b=>by rw[gb,gg];simp[blk],[],by rw[gg];exact⟨0,World.ownsRow_nil w 0 0 1⟩,fun k r u hr=>by simp at hr⟩)
 have R2:=(R'.VN t (.v (.c (.ow (.loc σ.next)))) (by rw[hv];exact hl)).Ae (F':=fun n=>σ.next+32≤n) (fun n hn=>⟨by omega,by omega⟩)
 refine⟨g',?_⟩
 simp only[Kv,Ba,CD]
 exact R2
theorem Yj {j:Nat}{cs:List CV}(hi:AJ σ.heap i=some (.cells cs)):BM σ ⟨σ.slots,Cj σ.heap i (.cells (Hl cs j .un)),σ.next⟩:=by
 rintro C a w ⟨g,R⟩
 obtain⟨b,c,et,hb,hh,hsz2,hr⟩:=R.heap.objs i _ hi
 have R2:=R.store (cs':=cs.set j .un) hi hb hh (c':=c) (by simp[hsz2]) (fun k x u hx hu=>by
  by_cases hk:k=j
  ·subst hk
   by_cases hlt:k<cs.length
   ·rw[List.getElem?_set_self hlt]at hx
    cases hx
    exact (hr k _ u (List.getElem?_eq_getElem hlt) hu).BQ
   simp_all
  grind)
 have hw:w.setRow b c=w:=setRow_self w b c _ _ hh
 rw[hw]at R2
 refine⟨g,?_⟩
 simp only[CD,JV]
 exact R2
inductive Gh where
 | unC (i:Id) (j:Nat)
 | flatten (i:Id)
 | close (i:Id)
 | treeS (t:Nat) (ag:Bool) (sz:Nat)
 | treeC (i:Id) (j:Nat) (ag:Bool) (sz:Nat)
 | freeze (i:Id)
 | move (i:Id)
 | cloz (t:Nat)
 | fnlS (t f:Nat) (cs:List FC)
def qJ:Kd→Bool
 | .row=>true
 | .flat=>true
 | _=>false
def gh:List Gh→St→(St→Prop)→Prop
 | [],σ,K=>K σ
 | x::r,σ,K=>match x with
  | .close i=>Fl (AJ σ.heap) [i] fun _ _ wr=>gh r ⟨σ.slots,Cb σ.heap wr,σ.next⟩ K
  | .treeS t ag sz=>BH (Nat.blt 0 sz)<| BH (Ik ag sz (AQ σ.slots t))<| gh r (Im t ag sz σ) K
  | .treeC i j ag sz=>BH (Nat.blt 0 sz)<| (match AJ σ.heap i with
   | some (.cells cs)=>BH (JW ag sz (Wn cs j))<| gh r (Ip i j ag sz σ) K
   | _=>False)
  | .freeze i=>(match AJ σ.heap i with
   | some (.tree kd ag sz rows foc)=>(match foc with
    | none=>BH (qJ kd)<| gh r (R7 i (.list ag sz rows) σ) K
    | some _=>False)
   | _=>False)
  | .unC i j=>(match AJ σ.heap i with
   | some (.cells cs)=>gh r ⟨σ.slots,Cj σ.heap i (.cells (Hl cs j .un)),σ.next⟩ K
   | _=>False)
  | .flatten i=>(match AJ σ.heap i with
   | some (.tree kd ag sz rows foc)=>(match kd with
    | .row=>(match foc with
     | none=>gh r ⟨σ.slots,Cj σ.heap i (.tree .flat ag sz rows none),σ.next⟩ K
     | some _=>False)
    | _=>False)
   | _=>False)
  | .move i=>(match AJ σ.heap i with
   | some (.tree kd ag sz rows foc)=>(match foc with
    | none=>gh r (UF i (.tree kd ag sz rows none) σ) K
    | some _=>False)
   | _=>False)
  | .fnlS t f cs=>(match AQ σ.slots t with
   | .v (.c (.nils _ _))=>gh r (Kv t f cs σ) K
   | _=>False)
  | .cloz t=>(match AQ σ.slots t with
   | .v (.c (.fn f Ch))=>BH (nodupB Ch)<| (match Fv (AJ σ.heap) Ch with
    | some cs=>gh r ⟨(t,.v (.c (.fz f cs)))::σ.slots,Cb σ.heap (Ah Ch),σ.next⟩ K
    | none=>False)
   | _=>False)
theorem UG {x:AV}(h:Ik ag sz x=true):x= .v (.c (.nils ag sz)):=by
 cases x with
 | v x=>cases x with
  | c c=>rw[OV h]
  | _=>simp[Ik]at h
 | _=>simp[Ik]at h
theorem Bx {K:St→Prop}:∀{l:List Gh}{σ:St},gh l σ K→∃σ',BM σ σ'∧K σ'
 | [],σ,h=>⟨σ,BM.refl σ,h⟩
 | .close i::r,σ,h=>by
  simp only[gh,Fl]at h
  split at h
  ·rename_i kd ag sz rows k cs hi
   obtain⟨hnf,h⟩:=AA.1 h
   obtain⟨ds,iss,h,hdl,hol,hcl⟩:=HC h
   split at h
   ·rename_i hnd
    split at h
    ·rename_i hag
     obtain⟨rows',hrows,h⟩:=h
     obtain⟨σ',hw,hk⟩:=Bx h
     refine⟨σ',BM.trans (fun C a w R=>?_) hw,hk⟩
     obtain⟨g,R⟩:=R
     obtain⟨g',R'⟩:=R.iB hi (KA.1 hnf) hdl hol (B1.1 hnd) (fun e=>by simp_all) hcl hrows
     refine⟨g',?_⟩
     simp only[CZ,List.append_nil]
     exact R'
    ·exact h.elim
   ·exact h.elim
  ·exact h.elim
 | .treeS t ag sz::r,σ,h=>by
  obtain⟨h1,h⟩:=AA.1 h
  obtain⟨h2,h⟩:=AA.1 h
  obtain⟨σ',h3,h4⟩:=Bx h
  exact⟨σ',BM.trans (Nr h1 (UG h2)) h3,h4⟩
 | .treeC i j ag sz::r,σ,h=>by
  obtain⟨h1,h⟩:=AA.1 h
  split at h
  ·rename_i cs hi
   obtain⟨h2,h⟩:=AA.1 h
   obtain⟨σ',h3,h4⟩:=Bx h
   exact⟨σ',BM.trans (Nt h1 hi (Rx h2)) h3,h4⟩
  ·exact h.elim
 | .fnlS t f cs::r,σ,h=>by
  simp only[gh]at h
  split at h
  ·rename_i hs
   obtain⟨σ',h3,h4⟩:=Bx h
   exact⟨σ',BM.trans (Pn hs) h3,h4⟩
  ·exact h.elim
 | .cloz t::r,σ,h=>by
  simp only[gh]at h
  split at h
  ·rename_i f Ch hs
   obtain⟨h1,h⟩:=AA.1 h
   split at h
   ·rename_i cs hb
    obtain⟨σ',h3,h4⟩:=Bx h
    exact⟨σ',BM.trans (Ws hs h1 hb) h3,h4⟩
   ·exact h.elim
  ·exact h.elim
 | .freeze i::r,σ,h=>by
  simp only[gh]at h
  split at h
  ·rename_i kd ag sz rows foc hi
   split at h
   ·obtain⟨h1,h⟩:=AA.1 h
    obtain⟨σ',h3,h4⟩:=Bx h
    exact⟨σ',BM.trans (R8 hi (by cases kd<;>simp[qJ]at h1 ⊢)) h3,h4⟩
   ·exact h.elim
  ·exact h.elim
 | .unC i j::r,σ,h=>by
  simp only[gh]at h
  split at h
  ·rename_i cs hi
   obtain⟨σ',h3,h4⟩:=Bx h
   exact⟨σ',BM.trans (Yj hi) h3,h4⟩
  ·exact h.elim
 | .flatten i::r,σ,h=>by
  simp only[gh]at h
  split at h
  ·rename_i kd ag sz rows foc hi
   split at h
   ·split at h
    ·obtain⟨σ',h3,h4⟩:=Bx h
     exact⟨σ',BM.trans (Pm hi) h3,h4⟩
    ·exact h.elim
   ·exact h.elim
  ·exact h.elim
 | .move i::r,σ,h=>by
  simp only[gh]at h
  split at h
  ·rename_i kd ag sz rows foc hi
   split at h
   ·obtain⟨σ',h3,h4⟩:=Bx h
    exact⟨σ',BM.trans (Wr hi) h3,h4⟩
   ·exact h.elim
  ·exact h.elim
end
end Go.AM
namespace Go.AM
open Go Go.RowKit
def slotsOf:List V1→Nat→List (Nat×AV)
 | [],_=>[]
 | x::r,i=>(i,.v x)::slotsOf r (i+1)
def Bi:List AD→Nat→List (Id×AD)
 | [],_=>[]
 | x::r,i=>(.ext i,x)::Bi r (i+1)
theorem Gd:∀(l:List V1) (i t:Nat),AQ (slotsOf l i) t= .u∨∃x,i≤t∧l[t - i]?=some x∧AQ (slotsOf l i) t= .v x
 | [],i,t=>.inl rfl
 | x::r,i,t=>by
  show AQ ((i,.v x)::slotsOf r (i+1)) t=_∨∃y,i≤t∧(x::r)[t - i]?=some y∧AQ ((i,.v x)::slotsOf r (i+1)) t= .v y
  rw[Ba]
  simp only[]
  split
  ·simp_all
  ·rcases Gd r (i+1) t with h | ⟨y,h1,h2,h3⟩
   ·exact .inl h
   grind
theorem Ly:∀(l:List AD) (i:Nat) (x:Id) (o:AD),AJ (Bi l i) x=some o→∃j,x= .ext j∧i≤j∧l[j - i]?=some o
 | [],i,x,o,h=>by trivial
 | y::r,i,x,o,h=>by
  rw[show Bi (y::r) i=(.ext i,y)::Bi r (i+1)from rfl,CY]at h
  simp only[AK]at h
  split at h
  ·simp_all
  ·obtain⟨j,h1,h2,h3⟩:=Ly r (i+1) x o h
   grind
theorem Lz:∀(l:List AD) (i j:Nat),AJ (Bi l i) (.ext (i+j))=l[j]?
 | [],i,j=>by simp[Bi,AJ]
 | y::r,i,j=>by
  rw[show Bi (y::r) i=(.ext i,y)::Bi r (i+1)from rfl,CY]
  simp only[AK]
  cases j with
  | zero=>simp
  | succ j=>
   rw[if_neg (by simp),show i+(j+1)=i+1+j from by omega,Lz r (i+1) j]
   simp
def Et (ti:Types) (σ:St):List ResultVar→(List V1→Prop)→Prop
 | [],K=>K []
 | .tmp t::r,K=>DL (AQ σ.slots t) fun x=>Et ti σ r fun xs=>K (x.norm::xs)
 | .cell a t::r,K=>Du ti t (AQ σ.slots a) (AJ σ.heap) fun out=>DL out.val fun x=>Et ti σ r fun xs=>K (x.norm::xs)
def Vg:List V1→AV
 | [x]=>.v x
 | xs=>.t xs
def Cn (nm:List Id) (N:Nat):Id→Id
 | .ext j=>.ext j
 | .loc k=>match nm[k]? with
  | some n=>n
  | none=>.loc N
def L1:AD→Bool
 | .gone=>true
 | _=>false
theorem OX {o:AD}(h:L1 o=true):o= .gone:=by cases o<;>first | rfl | simp[L1]at h
def Ec (h:Heap) (r:Id→Id):List AD→Nat→Prop
 | [],_=>True
 | o::l,j=>match L1 o with
  | true=>Ec h r l (j+1)
  | false=>h (.ext j)=some (o.Az r)∧Ec h r l (j+1)
def KG (h:Heap) (r:Id→Id):List AD→List Id→Prop
 | [],[]=>True
 | o::l,n::nm=>h n=some (o.Az r)∧KG h r l nm
 | _,_=>False
def E3 (post:List AD):List Id→Prop
 | []=>True
 | .loc _::l=>E3 post l
 | .ext j::l=>match post[j]? with
  | some o=>match L1 o with
   | true=>E3 post l
   | false=>False
  | none=>False
def Ho (ti:Types) (rs:List ResultVar) (σ:St) (res:AV) (post new:List AD):Prop:=
 ∃gs,gh gs σ fun σ=>Et ti σ rs fun xs=>∃nm:List Id,nodupB nm=true∧Vg xs=res.Az (Cn nm σ.next)∧Ec (AJ σ.heap) (Cn nm σ.next) post 0∧KG (AJ σ.heap) (Cn nm σ.next) new nm∧E3 post nm
theorem L2 {h:Heap}{r:Id→Id}:∀{l:List AD}{i j:Nat}{o:AD},Ec h r l i→l[j]?=some o→o= .gone∨h (.ext (i+j))=some (o.Az r)
 | o::l,i,0,_,hp,hj=>by
  simp at hj
  subst hj
  unfold Ec at hp
  split at hp
  ·rename_i hg;exact .inl (OX hg)
  ·exact .inr hp.1
 | o::l,i,j+1,_,hp,hj=>by
  simp at hj
  have hp':Ec h r l (i+1):=by
   unfold Ec at hp
   grind
  have:=L2 (j:=j) hp' hj
  grind
theorem FV {h:Heap}{r:Id→Id}:∀{l:List AD}{nm:List Id}{j:Nat}{o:AD},KG h r l nm→l[j]?=some o→∃n,nm[j]?=some n∧h n=some (o.Az r)
 | o::l,n::nm,0,_,hp,hj=>by simp at hj;subst hj;exact⟨n,rfl,hp.1⟩
 | o::l,n::nm,j+1,_,hp,hj=>by
  simp at hj
  obtain⟨m,h1,h2⟩:=FV (j:=j) hp.2 hj
  simp_all
 | [],[],j,_,_,hj=>by simp at hj
 | [],_::_,_,_,hp,_=>hp.elim
 | _::_,[],_,_,hp,_=>hp.elim
theorem OY {h:Heap}{r:Id→Id}:∀{l:List AD}{nm:List Id},KG h r l nm→nm.length=l.length
 | o::l,n::nm,hp=>by simp[OY hp.2]
 | [],[],_=>rfl
 | [],_::_,hp=>hp.elim
 | _::_,[],hp=>hp.elim
theorem Hp {post:List AD}:∀{nm:List Id}{k j:Nat},E3 post nm→nm[k]?=some (.ext j)→post[j]?=some .gone
 | [],k,j,_,h=>by simp at h
 | n::nm,0,j,hp,h=>by
  simp at h
  subst h
  simp only[E3]at hp
  split at hp
  ·rename_i o ho
   split at hp
   ·rename_i hg;rw[ho,OX hg]
   ·exact hp.elim
  ·exact hp.elim
 | n::nm,k+1,j,hp,h=>by
  simp at h
  refine Hp (k:=k) ?_ h
  cases n with
  | loc=>exact hp
  | ext i=>
   simp only[E3]at hp
   grind
section
variable {C:Cx}{ti:Types}{σ:St}{g:AO}{a:Act}{w:World}{F:Nat→Prop}
theorem jQ (hti:Ax C.P ti) (h1:BG ti) (R:AY C F (AQ σ.slots) (AJ σ.heap) g a w) {p:Tmp}{t:TypeId}{k:Out→Prop}
  (hk:Du ti t (AQ σ.slots p) (AJ σ.heap) k):∃out v ad,k out∧a.tmps.getD p undef= .pointer (some ad)∧(loadVar t ad).run C.P w= .ok v w∧Aj w (Ar (zone g (AJ σ.heap)) C.X) g (AJ σ.heap) out.val v:=by
 obtain⟨out,hko,_,H⟩:=OC (C:=C) hti h1 t _ hk
 obtain⟨v,hv,hr⟩:=H F _ _ g a w _ R (R.slots p) (fun _ _=>rfl)
 refine⟨out,v,?_⟩
 revert hv
 generalize a.tmps.getD p undef=u
 intro hv
 cases u with
 | pointer ad=>
  cases ad with
  | none=>trivial
  | some ad=>exact⟨ad,hko,rfl,by trivial,hr⟩
 | _=>trivial
def L3 (tmps:Array Value):ResultVar→Sem Value
 | .tmp t=>pure (tmps.getD t undef)
 | .cell a t=>do loadVar t (←asAddr (tmps.getD a undef))
theorem Dx (hti:Ax C.P ti) (h1:BG ti) (R:AY C F (AQ σ.slots) (AJ σ.heap) g a w):∀(rs:List ResultVar) (K:List V1→Prop),Et ti σ rs K→
  ∃xs vs,K xs∧(rs.mapM (L3 a.tmps)).run C.P w= .ok vs w∧vs.length=xs.length∧∀(j:Nat) x v,xs[j]?=some x→vs[j]?=some v→Ag w (Ar (zone g (AJ σ.heap)) C.X) g (AJ σ.heap) x v
 | [],K,hk=>⟨[],[],hk,rfl,rfl,by simp⟩
 | .tmp t::r,K,hk=>by
  obtain⟨y,hy,hk⟩:=CX.1 hk
  obtain⟨xs,vs,h2,h3,h4,h5⟩:=Dx hti h1 R r _ hk
  refine⟨y.norm::xs,a.tmps.getD t undef::vs,h2,by simp[List.mapM_cons,L3,h3],by simp[h4],fun j x v hx hv=>?_⟩
  match j with
  | 0=>
   simp only[List.getElem?_cons_zero,Option.some.injEq]at hx hv
   subst hx;subst hv
   have:=R.slots t
   rw[hy]at this
   exact Ag.norm this
  | j+1=>grind
 | .cell p t::r,K,hk=>by
  obtain⟨out,v0,ad,hk,hp,hl,hr⟩:=jQ hti h1 R hk
  obtain⟨y,hy,hk⟩:=CX.1 hk
  obtain⟨xs,vs,h2,h3,h4,h5⟩:=Dx hti h1 R r _ hk
  refine⟨y.norm::xs,v0::vs,h2,by simp only[List.mapM_cons,L3,hp,asAddr];simp[hl,h3],by simp[h4],fun j x v hx hv=>?_⟩
  match j with
  | 0=>
   simp only[List.getElem?_cons_zero,Option.some.injEq]at hx hv
   subst hx;subst hv
   rw[hy]at hr
   exact Ag.norm hr
  | j+1=>grind
theorem KH {fn:Func}{vs:List Value}(h:(fn.results.toList.mapM (L3 a.tmps)).run C.P w= .ok vs w):
  (results fn a.tmps).run C.P w= .ok (if h:vs.toArray.size=1 then vs.toArray[0]else .tuple vs.toArray) w:=by
 have e:results fn a.tmps=(do let vs ←fn.results.mapM (L3 a.tmps);pure (if h:vs.size=1 then vs[0]else .tuple vs)):=by
  rfl
 rw[e,Array.mapM_eq_mapM_toList,Sem.run_bind,Sem.run_map,h]
 rfl
end
def Au.of (P:Program) (I:Inv) (cl:Bool:=false) (pn:Value→List (Nat×AV)→List (Id×AD)→Nat→Prop:=fun _ _ _ _=>False):Au where
 I:=I
 cl:=cl
 pn:=pn
 P:=P
 split:=fun c A=>A c
 split_iff:=fun _ _=>Iff.rfl
 lock:=fun p=>p ()
 lock_iff:=fun _=>Iff.rfl
 eqI:=fun a b=>a==b
 eqI_eq:=fun _ _=>rfl
 ltI:=fun a b=>decide (a<b)
 ltI_eq:=fun _ _=>rfl
 leI:=fun a b=>decide (a≤b)
 leI_eq:=fun _ _=>rfl
 eqS:=fun a b=>a.toList==b.toList
 eqS_eq:=fun _ _=>rfl
 ltS:=fun a b=>Op.bytesLess a.toList b.toList
 ltS_eq:=fun _ _=>rfl
 lenI:=fun l=>l.length
 lenI_eq:=fun _=>rfl
 szI:=fun s=>s.size
 szI_eq:=fun _=>rfl
theorem finish {C:Cx}{σ:St}{g2:AO}{a:Act}{w':World}{X:Ai}{post new:List AD}{nm:List Id}(R2:AY C (fun n=>σ.next≤n) (AQ σ.slots) (AJ σ.heap) g2 a w') (hX:∀b o,X b o→C.X b o)
  (hnd:nm.Nodup) (hpost:Ec (AJ σ.heap) (Cn nm σ.next) post 0) (hnewo:KG (AJ σ.heap) (Cn nm σ.next) new nm) (hhand:E3 post nm):
  C0 w' X (fun i=>g2 (Cn nm σ.next i)) (BP post new)∧(∀i ob b o,BP post new i=some ob→BR (g2 (Cn nm σ.next i)) ob b o→∃j ob',AJ σ.heap j=some ob'∧BR (g2 j) ob' b o)∧
   (∀k,new.length≤k→g2 (Cn nm σ.next (.loc k))=undef)∧
   ∀(x:AV) v,Aj w' (Ar (zone g2 (AJ σ.heap)) C.X) g2 (AJ σ.heap) (x.Az (Cn nm σ.next)) v→Aj w' (Ar (zone (fun i=>g2 (Cn nm σ.next i)) (BP post new)) X) (fun i=>g2 (Cn nm σ.next i)) (BP post new) x v:=by
 have live:∀i o,BP post new i=some o→o= .gone∨AJ σ.heap (Cn nm σ.next i)=some (o.Az (Cn nm σ.next)):=by
  intro i o hi
  cases i with
  | ext j=>have:=L2 hpost hi;rw[Nat.zero_add]at this;exact this
  | loc k=>
   obtain⟨n,hn,ho⟩:=FV hnewo hi
   exact .inr (by simpa [Cn,hn] using ho)
 have hz:∀b o,Ar (zone (fun i=>g2 (Cn nm σ.next i)) (BP post new)) X b o→Ar (zone g2 (AJ σ.heap)) C.X b o:=by
  rintro b o (⟨i,ob,hi,h1⟩ | hx)
  ·rcases live i ob hi with rfl | ho
   ·exact h1.elim
   ·exact .inl ⟨_,_,ho,CW.2 h1⟩
  ·exact .inr (hX b o hx)
 have ht:∀i n sz e,BP post new i=some (.tok n sz e)→AJ σ.heap (Cn nm σ.next i)=some (.tok n sz e):=fun i n sz e hi=>(live i _ hi).resolve_left (by simp)
 have hw:∀i,isLive (BP post new i)=true→isLive (AJ σ.heap (Cn nm σ.next i))=true:=by
  intro i hi
  cases ho:BP post new i with
  | none=>rw[ho]at hi;cases hi
  | some o=>
   rw[ho]at hi
   rcases live i o ho with rfl | h
   ·cases hi
   ·rw[h]
    exact DF.trans hi
 have hN:=R2.free σ.next (Nat.le_refl _)
 refine⟨⟨fun i o hi=>?_,fun i j oi oj b hi hj bi bj=>?_,fun i oi b o hi bi=>?_⟩,fun i ob b o hi hb=>?_,fun k hk=>?_,fun x v h=>Aj.pull (r:=Cn nm σ.next) (g:=g2) (h:=AJ σ.heap) hz (fun _=>rfl) ht hw h⟩
 ·rcases live i o hi with rfl | ho
  ·trivial
  ·exact BJ.pull (r:=Cn nm σ.next) hz (fun _=>rfl) ht hw (R2.heap.objs _ _ ho)
 ·rcases live i oi hi with rfl | ho
  ·exact bi.elim
  rcases live j oj hj with rfl | ho'
  ·exact bj.elim
  have e:=R2.heap.sep _ _ _ _ b ho ho' (Cu.2 bi) (Cu.2 bj)
  cases i with
  | ext i=>
   cases j with
   | ext j=>simpa [Cn] using e
   | loc k=>
    obtain⟨n,hn,_⟩:=FV hnewo hj
    simp only[Cn,hn]at e
    subst e
    have:=Hp hhand hn
    rw[show BP post new (.ext i)=post[i]? from rfl,this]at hi
    cases hi
    exact bi.elim
  | loc k=>
   obtain⟨n,hn,_⟩:=FV hnewo hi
   cases j with
   | ext j=>
    simp only[Cn,hn]at e
    subst e
    have:=Hp hhand hn
    rw[show BP post new (.ext j)=post[j]? from rfl,this]at hj
    cases hj
    exact bj.elim
   | loc k'=>
    obtain⟨n',hn',_⟩:=FV hnewo hj
    simp only[Cn,hn,hn']at e
    subst e
    rw[(List.getElem?_inj (List.getElem?_eq_some_iff.1 hn).1 hnd).1 (hn.trans hn'.symm)]
 ·rcases live i oi hi with rfl | ho
  ·exact bi.elim
  ·intro hx
   exact R2.heap.apart _ _ b o ho (Cu.2 bi) (hX b o hx)
 ·rcases live i ob hi with rfl | ho
  ·exact hb.elim
  ·exact⟨_,_,ho,CW.2 hb⟩
 ·have:nm[k]?=none:=by simp[OY hnewo];omega
  simp only[Cn,this]
  exact hN.1
theorem KI {P:Program}{fn:Func}{tmps:Array Value}{R:Ending→World→Prop}:∀(ds:List Nat) (w:World),ds.Nodup→(∀r∈ds,w.heap[r]?=some (.deferred (some [])))→
  LeavesIn Fence.wide 0 P fn tmps R [] .returning (ds.foldl (fun w r=>w.putObj r (.deferred none)) w)→LeavesInM Fence.wide 0 P fn tmps R (ds.map C5) .returning w
 | [],w,_,_,h=>h
 | r::ds,w,hn,hd,h=>by
  refine⟨by simp,.inl ⟨r,_,rfl,run_takeDeferred (hd r (by simp)),?_⟩⟩
  refine KI ds _ (List.nodup_cons.1 hn).2 (fun r' hr'=>?_) h
  exact (World.putObj_heap_other (by grind)).trans (hd r' (by simp[hr']))
theorem KJ:∀(ds:List Nat) (w:World),DV (fun b=>b∈ds) w (ds.foldl (fun w r=>w.putObj r (.deferred none)) w)
 | [],w=>⟨rfl,rfl,rfl,Nat.le_refl _,fun _ _ _=>rfl⟩
 | r::ds,w=>by
  have:=KJ ds (w.putObj r (.deferred none))
  refine⟨this.os,this.tape,this.output,by simpa using this.size,fun b hb hn=>?_⟩
  simp only[List.mem_cons,not_or]at hn
  exact (this.block b (by simpa using hb) hn.2).trans (World.putObj_heap_other hn.1)
theorem L4:∀(ds:List Nat) (w:World),(ds.foldl (fun w r=>w.putObj r (.deferred none)) w).heap.size=w.heap.size
 | [],_=>rfl
 | r::ds,w=>by
  have:=L4 ds (w.putObj r (.deferred none))
  simp_all
theorem AY.turned {C:Cx}{F:Nat→Prop}{s:AL}{h:Heap}{g:AO}{a a':Act}{w w':World}(R:AY C F s h g a w) {B:Nat→Prop}(A:DV B w w') (hs:w'.heap.size=w.heap.size) (hB:∀b o,B b→C.X b o) (hI:∀b,C.M.I.blocks b→¬B b) (ht:a'.tmps=a.tmps) (ro:Option Nat)
  (hro:∀l,ro=some l→(∃L,w'.heap[l]?=some (.loop L))∧∀o,C.X l o) (hd:a'.defers=[]) (hcl:C.M.cl=false):
  ∃C2:Cx,C2.M=C.M∧C2.nt=C.nt∧C2.X=C.X∧C2.ro=ro∧C2.w0=w'∧C2.Z0=zone g h∧C2.g0=g∧C2.D=[]∧AY C2 F s h g a' w':=by
 have hX:∀b o,C.X b o→b<w.heap.size:=fun b o hx=>Nat.lt_of_lt_of_le (R.xs b o hx) R.frame.size
 have noz:∀b,(∀o,C.X b o)→∀o,¬zone g h b o:=by
  rintro b hx o ⟨i,ob,hi,hz⟩
  exact R.heap.apart i ob b o hi hz.GH (hx o)
 have hinv:C.M.I.at w' (Ar (zone g h) C.X):=by
  obtain⟨i1,i2⟩:=R.inv
  refine⟨C.M.I.same (fun b hb=>A.block b (i2 b hb).1 (hI b hb)) i1,fun b hb=>⟨by simp_all,(i2 b hb).2⟩⟩
 refine⟨{M:=C.M,nt:=C.nt,w0:=w',Z0:=zone g h,X:=C.X,g0:=g,hinv:=hinv,ro:=ro,D:=[],hro:=fun l hl=>⟨(hro l hl).1,noz l (hro l hl).2⟩,hD:=by simp,hDn:=List.nodup_nil,hcl:=fun h=>by rw[hcl]at h;cases h},rfl,rfl,rfl,rfl,rfl,rfl,rfl,rfl,?_⟩
 refine R.Q3 A rfl rfl (fun i o hi=>.inl hi) (fun b o hb=>.inr (hB b o hb)) ?_ (fun b o hx=>.inl (.inr hx)) (fun b o hx=>by grind) (fun i ob b o hi hb hx=>R.heap.apart i ob b o hi hb hx) rfl (fun b o hz=>hz) (fun j=>.refl _) ht ⟨fun _=>hd,fun h=>by rw[hcl]at h;cases h⟩ (fun n hn=>(R.free n hn).2)
 intro i ob b hi hb hBb
 exact R.heap.apart i ob b 0 hi hb (hB b 0 hBb)
theorem Hq {C:Cx}{P:Program}{sl:List (Nat×AV)}{pre:List AD}{g:AO}{a:Act}{w:World}(hsz:a.tmps.size=C.nt) (hd:DQ w (Ar (zone g (Ad pre)) C.X) g C.M.cl (AQ sl DT) a.defers C.D) (hsl:∀t,Aj w (Ar (zone g (Ad pre)) C.X) g (Ad pre) (AQ sl t) (a.tmps.getD t undef))
  (RH:C0 w C.X g (Ad pre)) (hw0:C.w0=w) (hg0:C.g0=g) (hZ:∀b o,zone g (Ad pre) b o→C.Z0 b o) (hX:∀b o,C.X b o→b<w.heap.size) (hg:∀n,g (.loc n)=undef):Bq C ⟨sl,Bi pre 0,0⟩ a w:=by
 have hh:AJ (Bi pre 0)=Ad pre:=by
  funext i
  cases i with
  | ext j=>have:=Lz pre 0 j;rw[Nat.zero_add]at this;exact this
  | loc n=>
   cases hc:AJ (Bi pre 0) (.loc n)with
   | none=>rfl
   | some o=>obtain⟨j,e,_⟩:=Ly pre 0 _ o hc;simp at e
 refine⟨g,?_⟩
 rw[hh]
 exact⟨hsz,hd,hsl,RH,by rw[hw0];exact Bn.refl _ _,fun j=>by rw[hg0];exact .refl _,fun j ob b o hj hz=>.inl (hZ b o ⟨_,_,hj,hz⟩),by rw[hw0];exact hX,fun n _=>⟨hg n,rfl⟩⟩
theorem EP.body {P:Program}{I:Inv}{ti:Types}(dr:Au→Nat→Pf) (hti:Ax P ti) (h1:BG ti) (hdr:∀C:Cx,C.P=P→Fo C (dr C.M C.nt)) {f:FuncId}{fn:Func}{c:Code}(hf:P.funcs[f]?=some fn) (hb:fn.body=some c)
  (hname:(fn.name== "runtime.NumGoroutine")=false) {args:List V1} {pre:List AD} {Q:AV→List AD→List AD→Prop} (hargs:args.length≤fn.ntmps)
  (hx:∀M:Au,M.P=P→M.I=I→exec M ti fn.ntmps (dr M fn.ntmps) c ⟨slotsOf args 0,Bi pre 0,0⟩ fun e σ=>match e with
   | .exit _=>False
   | .normal=>∃res post new,Q res post new∧Ho ti fn.results.toList σ res post new
   | .ret=>∃res post new,Q res post new∧Ho ti fn.results.toList σ res post new)
  (w:World) (X:Ai) (g:AO) (vals:Array Value) (hX:∀b o,X b o→b<w.heap.size) (hI:I.at w (Ar (zone g (Ad pre)) X)) (RH:C0 w X g (Ad pre)) (hg:∀n,g (.loc n)=undef) (hsz:vals.size=args.length)
  (hargs':∀(j:Nat) x v,args[j]?=some x→vals[j]?=some v→Ag w (Ar (zone g (Ad pre)) X) g (Ad pre) x v):
  c.wpIn Fence.wide 0 P (fun e a' w'=>match e with
   | .normal=>(∃ds:List Nat,a'.defers=ds.map C5)∧LeavesInM Fence.wide 0 P fn a'.tmps (fun e w'=>∃v g' res post new,Q res post new∧e= .returned v∧CS w X g pre res post new v w' g') a'.defers .returning w'
   | .ret=>(∃ds:List Nat,a'.defers=ds.map C5)∧LeavesInM Fence.wide 0 P fn a'.tmps (fun e w'=>∃v g' res post new,Q res post new∧e= .returned v∧CS w X g pre res post new v w' g') a'.defers .returning w'
   | _=>False) {tmps:=vals++Array.replicate (fn.ntmps - vals.size) undef,defers:=[]} w:=by
 let C:Cx:={M:=Au.of P I,nt:=fn.ntmps,w0:=w,Z0:=zone g (Ad pre),X:=X,g0:=g,hinv:=hI,ro:=none,D:=[],hro:=fun l hl=>(by cases hl),hD:=fun r hr=>(by cases hr),hDn:=List.nodup_nil,hcl:=fun h=>(by cases h)}
 have R0:Bq C ⟨slotsOf args 0,Bi pre 0,0⟩ {tmps:=vals++Array.replicate (fn.ntmps - vals.size) undef,defers:=[]} w:=by
  refine Hq (P:=P) (by simp[C];omega) rfl (fun t=>?_) RH rfl rfl (fun _ _ h=>h) hX hg
  rcases Gd args 0 t with h | ⟨x,_,h2,h3⟩
  ·rw[h];trivial
  ·rw[h3]
   simp only[Nat.sub_zero]at h2
   have hlt:t<vals.size:=by grind
   have:(vals++Array.replicate (fn.ntmps - vals.size) undef).getD t undef=vals[t]:=by
    simp[Array.getElem?_append,hlt]
   show Ag w _ g _ x ((vals++Array.replicate (fn.ntmps - vals.size) undef).getD t undef)
   rw[this]
   exact hargs' t x _ h2 (by simp[hlt])
 refine wpIn_mono (Bb (M:=Au.of P I) (ro:=none) hti h1 (fun C hC hn=>by
  have:=hdr C (by show C.M.P=P;rw[hC];rfl)
  grind) c _ _ C _ w rfl rfl rfl (fun h=>by cases h) (hx (Au.of P I) rfl rfl) R0) ?_
 have fin:∀(C':Cx) (σ:St) (a':Act) (w':World),DW C C'→(∃res post new,Q res post new∧Ho ti fn.results.toList σ res post new)→Bq C' σ a' w'→
   (∃ds:List Nat,a'.defers=ds.map C5)∧LeavesInM Fence.wide 0 P fn a'.tmps (fun e w'=>∃v g' res post new,Q res post new∧e= .returned v∧CS w X g pre res post new v w' g') a'.defers .returning w':=by
  rintro C' σ0 a' w' hle ⟨res,post,new,hQ,gs,hfin⟩ R0
  obtain⟨σ,hweak,hfin⟩:=Bx hfin
  obtain⟨g1,R1⟩:=hweak _ _ _ R0
  have hcf:C'.M.cl=false:=by rw[hle.M];rfl
  refine⟨⟨_,R1.marks hcf⟩,?_⟩
  rw[R1.marks hcf]
  obtain⟨ds,hds,hds2⟩:=hle.marks
  have hds:C'.D=ds:=by grind
  refine KI _ _ C'.hDn (fun r hr=>(R1.kept (C'.hD r hr).1 (C'.hD r hr).2).1) ?_
  have A:=KJ C'.D w'
  generalize hw2:C'.D.foldl (fun w r=>w.putObj r (.deferred none)) w'=w2 at A ⊢
  have hsz2:w2.heap.size=w'.heap.size:=by rw[←hw2];exact L4 _ _
  obtain⟨C2,c1,c2,c3,c4,c5,c6,c7,c8,R2⟩:=R1.turned (a':={tmps:=a'.tmps,defers:=[]}) A hsz2 (fun b o hb=>(hds2 b (hds▸hb)).2 o) (fun b hb hd=>(R1.inv.2 b hb).2 0 (.inr ((hds2 b (hds▸hd)).2 0))) rfl none (fun l hl=>by cases hl) rfl hcf
  have hti2:Ax C2.P ti:=by show Ax C2.M.P ti;rw[c1,hle.M];exact hti
  have hP:C2.P=P:=by show C2.M.P=P;rw[c1,hle.M];rfl
  obtain⟨xs,vs,⟨nm,hnd,hres,hpost,hnewo,hhand⟩,hrun,hlen,hrel⟩:=Dx (C:=C2) hti2 h1 R2 _ _ hfin
  obtain⟨f1,f2,f3,f4⟩:=finish (X:=X) R2 (fun b o hx=>by rw[c3];exact hle.X b o hx) (B1.1 hnd) hpost hnewo hhand
  obtain⟨d1,d2,d3⟩:=hle.down R1
  have hrr:=KH (C:=C2) hrun
  rw[hP]at hrr
  refine⟨_,hrr,_,fun i=>g1 (Cn nm σ.next i),res,post,new,hQ,rfl,⟨f1,?_,?_,fun j=>d2 j,fun i ob b o hi hb=>?_,f3⟩⟩
  ·refine f4 res _ ?_
   rw[←hres]
   have other:xs.length≠1→Aj w2 (Ar (zone g1 (AJ σ.heap)) C2.X) g1 (AJ σ.heap) (.t xs) (.tuple vs.toArray):=fun _=>
    ⟨vs.toArray,rfl,by simpa using hlen,fun j x v hx hv=>hrel j x v hx (by simpa using hv)⟩
   match xs,vs,hlen,hrel,other with
   | [x],[v],_,hrel,_=>exact hrel 0 x v rfl rfl
   | [],[],_,_,other=>exact other (by simp)
   | x::y::xs,v::u::vs,hl,_,other=>
    have:¬(v::u::vs).toArray.size=1:=by simp
    simp only[dif_neg this]
    exact other (by simp)
  ·exact d1.then (Z':=fun b _=>b∈C'.D) ⟨A.os,A.tape,A.output,A.size,fun b hb hn=>A.block b hb (hn 0),fun b o u hu hn=>A.cell hu hn⟩ (fun p o hp=>.inr (hds2 p (hds▸hp)).1)
  grind
 intro e a' w' hq
 cases e with
 | normal=>obtain⟨C',hle,σ,hf',hr⟩:=hq;grind
 | ret=>obtain⟨C',hle,σ,hf',hr⟩:=hq;grind
 | exit id=>obtain⟨C',hle,σ,hf',hr⟩:=hq;exact hf'.elim
 | goto l=>exact hq.elim
 | panic ch=>obtain⟨C',hle,v0,s,h,nx,hpn,_⟩:=hq;rw[hle.M]at hpn;exact hpn.elim
 | outgrown=>exact hq.elim
theorem EP.intro {P:Program}{I:Inv}{ti:Types}(dr:Au→Nat→Pf) (hti:Ax P ti) (h1:BG ti) (hdr:∀C:Cx,C.P=P→Fo C (dr C.M C.nt)) {f:FuncId}{fn:Func}{c:Code}(hf:P.funcs[f]?=some fn) (hb:fn.body=some c)
  (hname:(fn.name== "runtime.NumGoroutine")=false) {args:List V1} {pre:List AD} {Q:AV→List AD→List AD→Prop} (hargs:args.length≤fn.ntmps)
  (hx:∀M:Au,M.P=P→M.I=I→exec M ti fn.ntmps (dr M fn.ntmps) c ⟨slotsOf args 0,Bi pre 0,0⟩ fun e σ=>match e with
   | .exit _=>False
   | .normal=>∃res post new,Q res post new∧Ho ti fn.results.toList σ res post new
   | .ret=>∃res post new,Q res post new∧Ho ti fn.results.toList σ res post new):EP P I f args pre Q:=by
 refine⟨⟨fn,c,hf,hb,hname⟩,fun w X g vals hX hI RH hg hsz hargs'=>callsIn_wide.1 (callsIn_of_wp_marks (n:=0) hf hb trivial (wpIn_mono (EP.body dr hti h1 hdr hf hb hname hargs hx w X g vals hX hI RH hg hsz hargs') ?_))⟩
 intro e a' w' hq
 cases e with
 | normal=>exact hq.2
 | ret=>exact hq.2
 | exit id=>exact hq.elim
 | goto l=>exact hq.elim
 | panic ch=>exact hq.elim
 | outgrown=>exact hq.elim
end Go.AM
namespace Go.AM
open Go Go.RowKit
def R9:List Tmp→List V1→List (Nat×AV)→List (Nat×AV)
 | p::ps,x::xs,s=>R9 ps xs ((p,.v x)::s)
 | _,_,s=>s
theorem SA {ps:Array Tmp}{vals tmps:Array Value}:(D8 ps vals tmps).size=tmps.size:=by
 unfold D8
 rw[←Array.foldl_toList]
 generalize (ps.zip vals).toList=l
 induction l generalizing tmps with
 | nil=>rfl
 | cons x l ih=>
  simp_all
theorem OZ {w:World}{Z:Ai}{g:AO}{h:Heap}:∀{ps:List Tmp}{xs:List V1}{vs:List Value}{s:List (Nat×AV)}{tmps:Array Value},xs.length=ps.length→vs.length=xs.length→(∀p∈ps,p<tmps.size)→
  (∀(j:Nat) x v,xs[j]?=some x→vs[j]?=some v→Ag w Z g h x v)→(∀t,Aj w Z g h (AQ s t) (tmps.getD t undef))→
  ∀t,Aj w Z g h (AQ (R9 ps xs s) t) (((ps.zip vs).foldl (fun t x=>t.setIfInBounds x.1 x.2) tmps).getD t undef)
 | [],[],[],s,tmps,_,_,_,_,hs=>hs
 | p::ps,x::xs,v::vs,s,tmps,h1,h2,h3,h4,hs=>by
  refine OZ (ps:=ps) (xs:=xs) (vs:=vs) (by simpa using h1) (by simpa using h2) (fun q hq=>by simp_all) (fun j x v hx hv=>h4 (j+1) x v (by simpa using hx) (by simpa using hv)) ?_
  intro t
  rw[Ba]
  simp only[]
  split
  ·subst t
   have:=h3 p (by simp)
   rw[Array.getD_eq_getD_getElem?,Array.getElem?_setIfInBounds_self_of_lt this]
   exact h4 0 x v rfl rfl
  ·rename_i hne
   rw[Array.getD_eq_getD_getElem?,Array.getElem?_setIfInBounds_ne (Ne.symm hne),←Array.getD_eq_getD_getElem?]
   exact hs t
 | [],_::_,_,_,_,h1,_,_,_,_=>by simp at h1
 | _::_,[],_,_,_,h1,_,_,_,_=>by simp at h1
 | [],[],_::_,_,_,_,h2,_,_,_=>by simp at h2
 | _::_,_::_,[],_,_,_,h2,_,_,_=>by simp at h2
def D9:Cm→Jump
 | .normal=>none
 | .ret=>some none
 | .exit id=>some (some id)
def qK (σ:St) (post new:List AD):Prop:=
 ∃gs,gh gs σ fun σ=>∃nm:List Id,nodupB nm=true∧Ec (AJ σ.heap) (Cn nm σ.next) post 0∧KG (AJ σ.heap) (Cn nm σ.next) new nm∧E3 post nm
theorem E2.intro {P:Program}{I:Inv}{ti:Types}(dr:Au→Nat→Pf) (hti:Ax P ti) (h1:BG ti) (hdr:∀C:Cx,C.P=P→Fo C (dr C.M C.nt)) {r:RF}{sl:List (Nat×AV)}{args:List V1}{pre:List AD}{Q:Jump→List AD→List AD→Prop}
  (hlen:args.length=r.params.size) (hps:BZ (fun p=>Nat.blt p r.nt) r.params.toList=true)
  (hx:∀M:Au,M.P=P→M.I=I→exec M ti r.nt (dr M r.nt) r.assign ⟨R9 r.params.toList args sl,Bi pre 0,0⟩ fun e σ=>match e with
   | .normal=>exec M ti r.nt (dr M r.nt) r.body σ fun e σ=>∃post new,Q (D9 e) post new∧qK σ post new
   | _=>False):E2 P I r sl args pre Q:=by
 refine⟨hlen,?_⟩
 intro l L w X g vals hX hXl hl l1 l2 l3 l4 l5 l6 hI RH hg hsz hargs hsl
 have hlt:l<w.heap.size:=(Array.getElem?_eq_some_iff.1 hl).1
 have noz:∀{X:Ai} {w:World} {g:AO} {h:Heap},C0 w X g h→(∀o,X l o)→∀o,¬zone g h l o:=by
  rintro X w g h RH hx o ⟨i,ob,hi,hz⟩
  exact RH.apart i ob l o hi hz.GH (hx o)
 let C:Cx:={M:=Au.of P I,nt:=r.nt,w0:=w,Z0:=zone g (Ad pre),X:=X,g0:=g,hinv:=hI,ro:=some l,D:=[],hro:=fun l' hl'=>(by grind),hD:=fun r hr=>(by cases hr),hDn:=List.nodup_nil,hcl:=fun h=>(by cases h)}
 have hdr':∀C':Cx,C'.M=Au.of P I→C'.nt=r.nt→Fo C' (dr (Au.of P I) r.nt):=fun C' hC hn=>by
  have:=hdr C' (by show C'.M.P=P;rw[hC];rfl)
  simp_all
 have R0:Bq C ⟨R9 r.params.toList args sl,Bi pre 0,0⟩ {tmps:=D8 L.params vals L.tmps,defers:=[]} w:=by
  refine Hq (P:=P) (by show (D8 L.params vals L.tmps).size=r.nt;rw[SA];exact l6) rfl (fun t=>?_) RH rfl rfl (fun _ _ h=>h) hX hg
  have:=OZ (ps:=r.params.toList) (xs:=args) (vs:=vals.toList) (s:=sl) (tmps:=L.tmps) (by simpa using hlen) (by simpa using hsz) (fun p hp=>by
   have:=BD.1 hps p hp
   simp_all) (fun j x v hx hv=>hargs j x v hx (by simpa using hv)) hsl t
  show Aj _ _ _ _ _ ((D8 L.params vals L.tmps).getD t undef)
  unfold D8
  rw[l3,←Array.foldl_toList,Array.toList_zip]
  exact this
 have h1x:=hx (Au.of P I) rfl rfl
 refine roundIn_of_wpIn (F:=Fence.wide) trivial ?_
 rw[l4,l5]
 refine wpIn_mono (Bb (M:=Au.of P I) (ro:=some l) hti h1 hdr' r.assign _ _ C _ w rfl rfl rfl (fun h=>by cases h) h1x R0) ?_
 intro e a1 w1 hq
 cases e with
 | normal=>
  obtain⟨C1,hle,σ1,hk1,g1,R1⟩:=hq
  obtain⟨d1,d2,d3⟩:=hle.down R1
  have hXl1:∀o,C1.X l o:=fun o=>hle.X l o (hXl o)
  have hl1:w1.heap[l]?=some (.loop L):=(d1.block l hlt (noz RH hXl)).trans hl
  have hlt1:l<w1.heap.size:=(Array.getElem?_eq_some_iff.1 hl1).1
  refine⟨w1.putObj l (.loop {L with state:=.busy}),run_beginRound hl1 l1,?_⟩
  have A:DV (fun b=>b=l) w1 (w1.putObj l (.loop {L with state:=.busy})):=⟨rfl,rfl,rfl,by simp,fun b _ hb=>World.putObj_heap_other hb⟩
  have hl2:(w1.putObj l (.loop {L with state:=.busy})).heap[l]?=some (.loop {L with state:=.busy}):=World.putObj_heap_same hlt1
  have hc1:C1.M.cl=false:=by rw[hle.M];rfl
  obtain⟨C2,c1,c2,c3,c4,c5,c6,c7,c8,R2⟩:=R1.turned (a':={tmps:=a1.tmps,defers:=[]}) A World.putObj_size (fun b o hb=>by subst hb;exact hXl1 o) (fun b hb hd=>(R1.inv.2 b hb).2 0 (.inr (by subst hd;exact hXl1 0))) rfl (some l) (fun l' hl'=>by simp_all) rfl hc1
  have ha1:a1={tmps:=a1.tmps,defers:=[]}:=by
   have hd:=R1.marks hc1
   rw[hle.same (by simp[C])]at hd
   show a1=⟨a1.tmps,[]⟩
   rw[←show a1.defers=[]from hd]
  rw[ha1]
  refine wpIn_mono (Bb (M:=Au.of P I) (ro:=some l) hti h1 hdr' r.body σ1 _ C2 _ _ (c1.trans hle.M) (c2.trans hle.nt) c4 (fun h=>by cases h) hk1 ⟨g1,R2⟩) ?_
  have fin:∀(e:Cm) (a2:Act) (w3:World),(∃C3,DW C2 C3∧∃σ,(∃post new,Q (D9 e) post new∧qK σ post new)∧Bq C3 σ a2 w3)→
    ∃v w',(Instr.endRound l ((D9 e).map EY)).run P w3= .ok v w'∧∃jump g' post new,Q jump post new∧Ending.returned v= .returned (.bool jump.isNone)∧OM l L w X g pre jump post new w' g':=by
   rintro e a2 w3 ⟨C3,hle3,σ0,⟨post,new,hQ,gs,hfin⟩,R3⟩
   obtain⟨σ,hweak,nm,hnd,hpost,hnewo,hhand⟩:=Bx hfin
   obtain⟨g3,R3⟩:=hweak _ _ _ R3
   obtain⟨f1,f2,f3⟩:=hle3.down R3
   have hXl3:∀o,C3.X l o:=fun o=>hle3.X l o (by rw[c3];exact hXl1 o)
   have hz2:∀o,¬C2.Z0 l o:=by rw[c6];exact noz R1.heap hXl1
   have hl3:w3.heap[l]?=some (.loop {L with state:=.busy}):=by
    have:=f1.block l (by grind) hz2
    grind
   have hlt3:l<w3.heap.size:=(Array.getElem?_eq_some_iff.1 hl3).1
   refine⟨_,_,run_endRound _ hl3,?_⟩
   have A3:DV (fun b=>b=l) w3 (w3.putObj l (.loop {L with state:=if ((D9 e).map EY).isNone then .ready else .done,pending:=(D9 e).map EY})):=⟨rfl,rfl,rfl,by simp,fun b _ hb=>World.putObj_heap_other hb⟩
   have hc3:C3.M.cl=false:=by rw[hle3.M,c1];exact hc1
   obtain⟨C4,k1,k2,k3,k4,k5,k6,k7,k8,R4⟩:=R3.turned (a':={tmps:=a2.tmps,defers:=[]}) A3 World.putObj_size (fun b o hb=>by subst hb;exact hXl3 o) (fun b hb hd=>(R3.inv.2 b hb).2 0 (.inr (by subst hd;exact hXl3 0))) rfl none (fun l' hl'=>by cases hl') rfl hc3
   obtain⟨q1,q2,q3,_⟩:=finish (X:=X) R4 (fun b o hx=>by rw[k3];exact hle3.X b o (by rw[c3];exact hle.X b o hx)) (B1.1 hnd) hpost hnewo hhand
   have isn:((D9 e).map EY).isNone=(D9 e).isNone:=by cases D9 e<;>rfl
   have zin:∀b o,C2.Z0 b o→zone g (Ad pre) b o∨w.heap.size≤b:=by
    intro b o hz
    rw[c6]at hz
    obtain⟨i,ob,hi,h3⟩:=hz
    exact d3 i ob b o hi h3
   have fr:Bn (fun b o=>zone g (Ad pre) b o∨b=l) w (w3.putObj l (.loop {L with state:=if ((D9 e).map EY).isNone then .ready else .done,pending:=(D9 e).map EY})):=by
    have s1:Bn (fun b o=>zone g (Ad pre) b o∨b=l) w w1:=d1.weaken (fun b o h=>.inl h)
    have one:∀{a b:World},DV (fun b=>b=l) a b→Bn (fun b _=>b=l) a b:=fun A=>⟨A.os,A.tape,A.output,A.size,fun b hb hn=>A.block b hb (fun e=>hn 0 e),fun b o u hu hn=>A.cell hu hn⟩
    have s2:=s1.then (one A) (fun p o h=>.inl (.inr h))
    have s3:=s2.then (by have:=f1;rw[c5]at this;exact this) (fun p o h=>(zin p o h).imp .inl id)
    exact s3.then (one A3) (fun p o h=>.inl (.inr h))
   refine⟨D9 e,fun i=>g3 (Cn nm σ.next i),post,new,hQ,by rw[isn],⟨q1,fr,?_,fun j=>?_,fun i ob b o hi hb=>?_,q3⟩⟩
   ·rw[World.putObj_heap_same hlt3,isn]
   ·have e1:=d2 j
    have e2:=f2 j
    rw[c7]at e2
    exact e1.trans e2
   ·obtain⟨j,ob',hj,hz⟩:=q2 i ob b o hi hb
    rcases f3 j ob' b o hj hz with h | h
    ·exact zin b o h
    ·rw[c5,World.putObj_size]at h
     exact .inr (Nat.le_trans d1.size h)
  intro e a2 w3 hq
  cases e with
  | normal=>exact fin .normal a2 w3 hq
  | ret=>exact fin .ret a2 w3 hq
  | exit id=>exact fin (.exit id) a2 w3 hq
  | goto l=>exact hq.elim
  | panic ch=>obtain⟨C',hle',v0,s,h,nx,hpn,_⟩:=hq;rw[hle'.M,c1.trans hle.M]at hpn;exact hpn.elim
  | outgrown=>exact hq.elim
 | exit id=>obtain⟨_,_,_,hk,_⟩:=hq;exact hk.elim
 | ret=>obtain⟨_,_,_,hk,_⟩:=hq;exact hk.elim
 | goto l=>exact hq.elim
 | panic ch=>obtain⟨C',hle,v0,s,h,nx,hpn,_⟩:=hq;rw[hle.M]at hpn;exact hpn.elim
 | outgrown=>exact hq.elim
end Go.AM
namespace Go.AM
open Go Go.RowKit
section
variable {P:Program}{ti:Types}
theorem Po (hti:Ax P ti) (h1:BG ti) (hm:P.follows .mixedOrders=true):∀C:Cx,C.P=P→Fo C (BI ti C.M C.nt):=fun C hC=>by
 have hti':Ax C.P ti:=by rw[hC];exact hti
 have hm':C.P.follows .mixedOrders=true:=by rw[hC];exact hm
 exact jO hti' h1 hm'
variable {pre:List AD}{rs:List ResultVar}
theorem EP.of {I:Inv}(hti:Ax P ti) (h1:BG ti) (hm:P.follows .mixedOrders=true) {f:FuncId}{fn:Func}{c:Code}(hf:P.funcs[f]?=some fn) (hb:fn.body=some c)
  (hname:(fn.name== "runtime.NumGoroutine")=false) {args:List V1} {Q:AV→List AD→List AD→Prop} {nt:Nat} (hnt:fn.ntmps=nt) (hargs:Nat.ble args.length nt=true) (hrs:fn.results.toList=rs)
  (hx:∀M:Au,M.P=P→M.I=I→exec M ti nt (BI ti M nt) c ⟨slotsOf args 0,Bi pre 0,0⟩ fun e σ=>match e with
   | .exit _=>False
   | .normal=>∃res post new,Q res post new∧Ho ti rs σ res post new
   | .ret=>∃res post new,Q res post new∧Ho ti rs σ res post new):EP P I f args pre Q:=by
 subst hnt
 subst hrs
 exact EP.intro (fun M nt=>BI ti M nt) hti h1 (Po hti h1 hm) hf hb hname (Nat.le_of_ble_eq_true hargs) hx
variable {post new:List AD}
theorem Ct.of {I:Inv}(hti:Ax P ti) (h1:BG ti) (hm:P.follows .mixedOrders=true) {f:FuncId}{fn:Func}{c:Code}(hf:P.funcs[f]?=some fn) (hb:fn.body=some c)
  (hname:(fn.name== "runtime.NumGoroutine")=false) {args:List V1} {res:AV} {nt:Nat} (hnt:fn.ntmps=nt) (hargs:Nat.ble args.length nt=true) (hrs:fn.results.toList=rs)
  (hx:∀M:Au,M.P=P→M.I=I→exec M ti nt (BI ti M nt) c ⟨slotsOf args 0,Bi pre 0,0⟩ fun e σ=>match e with
   | .exit _=>False
   | .normal=>∃r p n,(r=res∧p=post∧n=new)∧Ho ti rs σ r p n
   | .ret=>∃r p n,(r=res∧p=post∧n=new)∧Ho ti rs σ r p n):Ct P I f args pre res post new:=
 EP.of hti h1 hm hf hb hname hnt hargs hrs hx
theorem Yk {σ:St}{res:AV}(h:Et ti σ rs fun xs=>∃nm:List Id,nodupB nm=true∧Vg xs=res.Az (Cn nm σ.next)∧Ec (AJ σ.heap) (Cn nm σ.next) post 0∧KG (AJ σ.heap) (Cn nm σ.next) new nm∧E3 post nm):
  ∃r p n,(r=res∧p=post∧n=new)∧Ho ti rs σ r p n:=⟨_,_,_,⟨rfl,rfl,rfl⟩,[],h⟩
end
section
variable {M:Au}{A:Bool→Prop}
theorem jR {a b:Int}(h1:a≤b→A true) (h0:b<a→A false):M.split (M.leI a b) A:=by
 rw[M.split_iff,M.leI_eq]
 grind
end
section
variable {M:Au}{f:FuncId}{args:List V1}{fresh:Nat}{h:Heap}{k:Out→Prop}{targs:List V1}{res:AV}
theorem UH {ti:Types}{o:Oper}{c:Call}{x:Operand}{s:AL}(ho:o.op= .call c) (hc:c.callee= .value x) (hk:Hc h (fun h'=>Af M ti o fresh s h') k):DZ M ti o fresh s h k:=by
 unfold DZ
 simp_all
theorem jS {ti:Types}{o:Oper}{c:Call}{x:Operand}{s:AL}{X:Prop}(ho:o.op= .call c) (hc:c.callee= .value x) (hk:Af M ti o fresh s h k):M.lock fun _=>DZ M ti o fresh s h k∨X:=
 (M.lock_iff _).2<| .inl<| UH ho hc ⟨[],hk⟩
theorem jT {A X:Prop}(hk:X):M.lock fun _=>A∨X:=(M.lock_iff _).2 (.inr hk)
def SB (h:Heap) (r:Id→Id):List Id→List AD→Prop
 | [],[]=>True
 | i::m,o::pre=>h i=some (o.Az r)∧SB h r m pre
 | _,_=>False
theorem Dp {r:Id→Id}:∀{m:List Id}{pre:List AD},SB h r m pre→m.length=pre.length∧∀(j:Nat) i o,m[j]?=some i→pre[j]?=some o→h i=some (o.Az r)
 | [],[],_=>⟨rfl,by simp⟩
 | i::m,o::pre,hp=>by
  obtain⟨h1,h2⟩:=Dp hp.2
  refine⟨by simp[h1],fun j i' o' hi ho=>?_⟩
  match j with
  | 0=>simp at hi ho;subst hi;subst ho;exact hp.1
  | j+1=>grind
 | [],_::_,hp=>hp.elim
 | _::_,[],hp=>hp.elim
theorem JY {P:Program}{I:Inv}(hP:M.P=P) (hI:M.I=I) (m:List Id) {pre post new:List AD}(ht:Ct P I f targs pre res post new) (he:args=targs.map (V1.Az (BF m fresh))) (hm:m.Nodup)
  (hpre:SB h (BF m fresh) m pre) (hkd:Bc pre post) (hn:new.length≤31) (hk:k ⟨res.Az (BF m fresh),m,Kk m (BF m fresh) post++Cf fresh (BF m fresh) 0 new⟩):
  M.lock fun _=>IM M.P M.I f args fresh h k:=
 (M.lock_iff _).2 ⟨m,targs,pre,res,post,new,hP▸hI▸ht,he,(Dp hpre).1,hm,(Dp hpre).2,hkd,hn,hk⟩
end
theorem drawn {M:Au}{p:Unit→Prop}{K:Prop}(hd:p ()) (hk:K):M.lock p∧K:=⟨(M.lock_iff _).2 hd,hk⟩
section
variable {M:Au}{L L':List D}{N i:Int}(hN:0≤N∧L.length=N.toNat)
include hN
end
end Go.AM
namespace Go.AM
open Go Go.RowKit
inductive Shape (ti:Types):TypeId→List D→Prop where
 | bool {t x} (b:Bool) (h:ti t=some x) (hd:x.desc= .bool):Shape ti t [.bool b]
 | int {t x k} (n:Int) (h:ti t=some x) (hd:x.desc= .int k) (hw:(Lit.int k n).wf=true):Shape ti t [.int k n]
 | str {t x} (s:ByteArray) (h:ti t=some x) (hd:x.desc= .string) (hs:s.size≤maxLen):Shape ti t [.str s]
 | slice {t x e y} (rows:List D) (h:ti t=some x) (hd:x.desc= .slice e) (he:ti e=some y) (hl:rows.length≤maxLen)
   (hf:∀r∈rows,r.fits (AR y.desc) y.size) (hr:∀r∈rows,Shape ti e r.cells):Shape ti t [.list (AR y.desc) y.size rows]
 | struct {t x fs} (ds:List D) (h:ti t=some x) (hd:x.desc= .struct fs) (hl:ds.length=x.size) (hg:∀c∈ds,c.isAgg=false)
   (hr:∀f∈fs.toList,∀y,ti f.type=some y→Shape ti f.type ((ds.drop f.offset).take y.size)):Shape ti t ds
def chain (ti:Types):Nat→List Field→Option Nat
 | off,[]=>some off
 | off,f::r=>if f.offset=off then match ti f.type with
   | some y=>chain ti (off+y.size) r
   | none=>none
  else none
theorem SC {ti:Types}:∀{fs:List Field}{off JK:Nat},chain ti off fs=some JK→off≤JK∧∀f∈fs,off≤f.offset∧∃y,ti f.type=some y
 | [],off,JK,h=>by simp[chain]at h;simp_all
 | f::fs,off,JK,h=>by
  unfold chain at h
  split at h
  ·rename_i ho
   split at h
   ·rename_i y hy
    obtain⟨h1,h2⟩:=SC h
    grind
   ·simp at h
  ·simp at h
def L5 (ti:Types) (T:List TypeId):Bool:=
 T.all fun t=>match ti t with
  | some x=>match x.desc with
   | .bool | .int _ | .string=>x.size==1
   | .slice e=>T.contains e&&(x.size==1)&&(match ti e with
    | some y=>decide (0<y.size)&&(AR y.desc || y.size==1)
    | none=>false)
   | .struct fs=>(chain ti 0 fs.toList==some x.size)&&fs.toList.all fun f=>T.contains f.type
   | _=>false
  | none=>false
theorem KK {Q:Nat→D→Prop}:∀n,(∀i,i<n→∃r,Q i r)→∃l:List D,l.length=n∧∀i r,l[i]?=some r→Q i r
 | 0,_=>⟨[],rfl,by simp⟩
 | n+1,h=>by
  obtain⟨l,h1,h2⟩:=KK n (fun i hi=>h i (by omega))
  obtain⟨r,hr⟩:=h n (by omega)
  refine⟨l++[r],by simp[h1],fun i r' hi=>?_⟩
  grind
def SD (w:World) (Z:Ai) (ds:List D) (cs:List Value):Prop:=
 ds.length=cs.length∧(∀c∈ds,c.isAgg=false)∧∀(j:Nat) c u,ds[j]?=some c→cs[j]?=some u→AZ w Z c u
theorem FW {w:World}{Z:Ai}{c:D}{u:Value}(hc:c.isAgg=false) (h:AZ w Z c u):SD w Z [c] [u]:=
 ⟨rfl,by simpa using hc,fun j c' u' h1 h2=>by
  match j with
  | 0=>simp_all
  | j+1=>simp at h1⟩
theorem KL {w:World}{Z:Ai}{ti:Types}{cs:List Value}:∀(fs:List Field) (off JK:Nat),chain ti off fs=some JK→JK≤cs.length→
  (∀f∈fs,∀y,ti f.type=some y→∃ds,Shape ti f.type ds∧SD w Z ds ((cs.drop f.offset).take y.size))→
  ∃ds,SD w Z ds ((cs.drop off).take (JK - off))∧∀f∈fs,∀y,ti f.type=some y→Shape ti f.type ((ds.drop (f.offset - off)).take y.size)
 | [],off,JK,h,_,_=>by
  simp[chain]at h
  subst h
  exact⟨[],⟨by simp,by simp,by simp⟩,by simp⟩
 | f::fs,off,JK,h,hl,hx=>by
  unfold chain at h
  split at h
  ·rename_i ho
   split at h
   ·rename_i y hy
    obtain⟨hle,hoff⟩:=SC h
    obtain⟨ds',⟨a1,a2,a3⟩,hs'⟩:=KL fs _ JK h hl (fun f' hf'=>hx f' (List.mem_cons_of_mem _ hf'))
    obtain⟨p,hp,b1,b2,b3⟩:=hx f (by simp) y hy
    rw[ho]at b1 b3
    have hpl:p.length=y.size:=by rw[b1];simp;omega
    refine⟨p++ds',⟨?_,?_,?_⟩,fun f' hf' y' hy'=>?_⟩
    ·simp at a1 ⊢;omega
    ·grind
    ·grind
    ·rcases List.mem_cons.1 hf' with rfl | hf'
     ·rw[hy]at hy'
      obtain rfl:y=y':=by simpa using hy'
      rw[ho,Nat.sub_self,List.drop_zero,List.take_append_of_le_length (by omega),List.take_of_length_le (by omega)]
      exact hp
     ·have h1:=(hoff f' hf').1
      have:=hs' f' hf' y' hy'
      rw[List.drop_append,List.drop_of_length_le (by omega),List.nil_append]
      grind
   ·simp at h
  ·simp at h
theorem Hr {P:Program}{ti:Types}(hti:Ax P ti) {t:TypeId}{x:TI}(h:ti t=some x):P.cellsOf t=x.size:=by
 obtain⟨_,i,h1,h2,_⟩:=hti t x h
 simp[Program.cellsOf,h1,h2]
theorem conv {H:Type}{enc:TypeId×Value→H}{P:Program}{ti:Types}(hti:Ax P ti) {T:List TypeId}(hT:L5 ti T=true) {w:World}{base:Nat}{spare:Nat→Bool}{held:Bool}{Z:Ai}(hZ:∀b o,¬Z b o):
  ∀(fuel:Nat) (t:TypeId) (cs:List Value) (d:DataW H) (ps:List MemPlace),t∈T→DataW.trod enc P w base spare held fuel t cs=some (d,ps)→∃ds,Shape ti t ds∧SD w Z ds cs
 | 0,t,cs,d,ps,_,h=>by simp[DataW.trod]at h
 | fuel+1,t,cs,d,ps,ht,h=>by
  have hp:=hT
  unfold L5 at hp
  have hp:=List.all_eq_true.1 hp t ht
  split at hp
  ·rename_i x hx
   have hu:=(hti t x hx).1
   have hcs:=Hr hti hx
   split at hp
   ·rename_i hd
    rw[hd]at hu
    unfold DataW.trod at h
    simp only[hu]at h
    split at h<;>simp_all
    exact⟨_,.bool _ hx hd,FW rfl (.bool _)⟩
   ·rename_i k hd
    rw[hd]at hu
    unfold DataW.trod at h
    simp only[hu]at h
    split at h<;>simp_all
    obtain⟨⟨rfl,hw⟩,_⟩:=h
    exact⟨_,.int _ hx hd hw,FW rfl (.int _ _)⟩
   ·rename_i hd
    rw[hd]at hu
    unfold DataW.trod at h
    simp only[hu]at h
    split at h<;>simp_all
    exact⟨_,.str _ hx hd h.1,FW rfl (.str _)⟩
   ·rename_i e hd
    rw[hd]at hu
    simp only[Bool.and_eq_true]at hp
    obtain⟨⟨he,_⟩,hp⟩:=hp
    have he:e∈T:=by simpa using he
    split at hp
    ·rename_i y hy
     simp only[Bool.and_eq_true,decide_eq_true_eq]at hp
     have hey:=Hr hti hy
     unfold DataW.trod at h
     simp only[hu]at h
     split at h<;>rename_i hq<;>try cases hq
     ·exact⟨_,.slice [] hx hd hy (by simp) (by simp) (by simp),FW rfl (FE _ _)⟩
     ·rename_i a len cap
      rw[hey]at h
      split at h
      ·rename_i hg
       obtain⟨elems,he1,_⟩:=Option.bind_eq_some_iff.1 h
       have hel:elems.length=len:=by simpa using mapM_some_length he1
       have each:∀i,i<len→∃cs' ds,(w.cells? base (a.add (i*y.size)) y.size)=some cs'∧Shape ti e ds∧SD w Z ds cs':=by
        intro i hi
        have h1:=mapM_some_get he1 i i (by simp[hi])
        rw[List.getElem?_eq_getElem (by omega:i<elems.length)]at h1
        obtain⟨cs',h2,h3⟩:=Option.bind_eq_some_iff.1 h1
        obtain⟨ds,h4,h5⟩:=conv hti hT hZ fuel e cs' _ _ he h3
        grind
       have hspot:0<len→a.spot=none:=by
        intro hl
        obtain⟨cs',_,h2,_⟩:=each 0 hl
        obtain⟨_,h3,h4⟩:=World.cells?_some h2
        have h5:=h4 0 hp.1
        rw[List.getElem?_eq_getElem (by omega)]at h5
        simp only[Nat.zero_mul,Addr.add,if_true]at h5
        unfold World.cell? at h5
        split at h5
        ·simp_all
        ·cases h5
       obtain⟨rows,hrl,hrows⟩:=KK (Q:=fun i r=>r.fits (AR y.desc) y.size∧Shape ti e r.cells∧∀(j:Nat) c,r.cells[j]?=some c→
         ∃u,w.cell? ⟨a.block,a.off+(i*y.size+j),none⟩=some u∧AZ w Z c u) len (fun i hi=>by
        obtain⟨cs',ds,h2,h3,h4⟩:=each i hi
        obtain⟨_,h5,h6⟩:=World.cells?_some h2
        have hdl:ds.length=y.size:=h4.1.trans h5
        obtain⟨r,hr1,hr2⟩:∃r:D,r.cells=ds∧r.isAgg=AR y.desc:=by
         cases hrw:AR y.desc with
         | true=>exact⟨.agg ds,rfl,rfl⟩
         | false=>
          rw[hrw]at hp
          have:y.size=1:=by simpa using hp.2
          obtain⟨c,rfl⟩:=List.length_eq_one_iff.1 (hdl.trans this)
          have hc:=h4.2.1 c (by simp)
          exact⟨c,by cases c<;>first | rfl | simp[D.isAgg]at hc,hc⟩
        refine⟨r,⟨hr2,by rw[hr1,hdl],by rw[hr1];exact h4.2.1⟩,by rw[hr1];exact h3,fun j c hc=>?_⟩
        rw[hr1]at hc
        have hj:j<y.size:=by grind
        have h7:=h6 j hj
        have ha:(a.add (i*y.size)).add j=⟨a.block,a.off+(i*y.size+j),none⟩:=by
         have:=hspot (by omega)
         obtain⟨ab,ao,asp⟩:=a
         simp only at this
         subst this
         unfold Addr.add
         split<;>split<;>simp_all<;>omega
        rw[ha,List.getElem?_eq_getElem (by omega:j<cs'.length)]at h7
        exact⟨_,h7,h4.2.2 j c _ hc (List.getElem?_eq_getElem (by omega:j<cs'.length))⟩)
       refine⟨_,.slice rows hx hd hy (by omega) (fun r hr=>?_) (fun r hr=>?_),FW rfl ?_⟩
       ·obtain⟨i,hi⟩:=List.mem_iff_getElem?.1 hr
        exact (hrows i r hi).1
       ·obtain⟨i,hi⟩:=List.mem_iff_getElem?.1 hr
        grind
       ·rw[←hrl]
        refine .list _ _ rows (some a) cap a.block a.off (fun i j=>(w.cell? ⟨a.block,a.off+(i*y.size+j),none⟩).getD undef) (by omega) hg.2.2 (fun r hr=>?_) (fun hne=>?_) (fun i r j c hr hc=>?_) (fun i r j c hr hc=>?_)
        ·obtain⟨i,hi⟩:=List.mem_iff_getElem?.1 hr
         exact (hrows i r hi).1
        ·have:=hspot (by grind)
         obtain⟨ab,ao,asp⟩:=a
         simp_all
        ·grind
        grind
      ·cases h
     ·cases h
    ·simp at hp
   ·rename_i fs hd
    rw[hd]at hu
    simp only[Bool.and_eq_true,beq_iff_eq]at hp
    obtain⟨hch,hfs⟩:=hp
    unfold DataW.trod at h
    simp only[hu]at h
    split at h<;>rename_i hq<;>try cases hq
    ·obtain⟨xs,hxs,_⟩:=Option.map_eq_some_iff.1 h
     obtain⟨ds,h1,h2⟩:=KL (w:=w) (Z:=Z) (cs:=cs) fs.toList 0 x.size hch (by omega) (fun f hf y hy=>by
      obtain⟨i,hi⟩:=List.mem_iff_getElem?.1 hf
      have h3:=mapM_some_get hxs i f hi
      have hil:i<xs.length:=by rw[mapM_some_length hxs];grind
      rw[List.getElem?_eq_getElem hil,Hr hti hy]at h3
      have hfT:f.type∈T:=by grind
      exact conv hti hT hZ fuel f.type _ _ _ hfT h3)
     rw[List.drop_zero,Nat.sub_zero,List.take_of_length_le (by omega)]at h1
     exact⟨ds,.struct ds hx hd (by rw[h1.1];omega) h1.2.1 (fun f hf y hy=>by simp_all),h1⟩
    ·cases h
   ·simp at hp
  ·simp at hp
end Go.AM
namespace Go.AM
open Go
section
variable {ti:Types}{t e:TypeId}{x y:TI}{ds:List D}{fs:Array Field}{k:IntKind}
theorem Shape.nB (h:Shape ti t ds) (hx:ti t=some x) (hd:x.desc= .int k):∃n,ds=[.int k n]∧(Lit.int k n).wf=true:=by
 cases h<;>simp_all
theorem Shape.nC (h:Shape ti t ds) (hx:ti t=some x) (hd:x.desc= .string):∃s,ds=[.str s]∧s.size≤maxLen:=by
 cases h<;>simp_all
theorem Shape.Xm (h:Shape ti t ds) (hx:ti t=some x) (hd:x.desc= .slice e) (hy:ti e=some y):
  ∃rows,ds=[.list (AR y.desc) y.size rows]∧rows.length≤maxLen∧(∀r∈rows,r.fits (AR y.desc) y.size)∧∀r∈rows,Shape ti e r.cells:=by
 cases h with
 | slice rows h1 h2 h3 h4 h5 h6=>
  simp_all
 | _=>simp_all
theorem Shape.VO (h:Shape ti t ds) (hx:ti t=some x) (hd:x.desc= .struct fs):
  ds.length=x.size∧(∀c∈ds,c.isAgg=false)∧∀f∈fs.toList,∀y,ti f.type=some y→Shape ti f.type ((ds.drop f.offset).take y.size):=by
 cases h with
 | struct ds h1 h2 h3 h4 h5=>
  simp_all
 | _=>simp_all
end
def CN (ti:Types) (t:TypeId):TI:=
 match ti t with
 | some x=>x
 | none=>⟨.bool,0,0,.bool false,[]⟩
theorem L6 {a b:ByteArray}:(a.toList==b.toList)=true↔a=b:=by
 constructor
 ·intro h
  have h:=beq_iff_eq.1 h
  rw[ByteArray.toList_eq,ByteArray.toList_eq]at h
  exact ByteArray.ext (Array.ext' h)
 ·rintro rfl;simp
end Go.AM
namespace Go.AM
open Go
section
variable {α γ:Type}
def AW (z:Int) (k:Int→Option γ):Option γ:=k z
section
variable {r:γ}
theorem L7 {z:Int}{k:Int→Option γ}(h:AW z k=some r):∃y,z=y∧k y=some r:=⟨z,rfl,h⟩
def AP (L:List D) (k:Int→Option γ):Option γ:=k L.length
variable {L:List D}
theorem Ge (M:Au) {k:Int→Option γ}(h:AP L k=some r):∃y,M.lenI L=y∧k y=some r:=⟨L.length,M.lenI_eq L,h⟩
def Xn (s:ByteArray) (k:Int→Option γ):Option γ:=k s.size
variable {s:ByteArray}
theorem jU (M:Au) {k:Int→Option γ}(h:Xn s k=some r):∃y,M.szI s=y∧k y=some r:=⟨s.size,M.szI_eq s,h⟩
def An (L:List D) (i:Int) (k:D→Option γ):Option γ:=if 0≤i then (match L[i.toNat]? with | some x=>k x | none=>none)else none
theorem L8 {i:Int}{k:D→Option γ}(h:An L i k=some r):∃x,(0≤i∧L[i.toNat]?=some x)∧k x=some r:=by
 unfold An at h
 grind
def Bs (p:Prop) [Decidable p] (x:Option γ):Option γ:=if p then x else none
variable {p:Prop}
theorem Bp [Decidable p] {x:Option γ}(h:Bs p x=some r):p∧x=some r:=by
 unfold Bs at h
 simp_all
theorem vV [Decidable p] {x y r:Option γ}(hp:p) (h:(if p then x else y)=r):x=r:=by rwa [if_pos hp]at h
theorem vW [Decidable p] {x y r:Option γ}(hp:¬p) (h:(if p then x else y)=r):y=r:=by rwa [if_neg hp]at h
def DH (b:Nat) (L M:List D) (k:List D→Option γ):Option γ:=if L.length+M.length≤maxLen∧(L.length+M.length)*b≤140737488355328 then k (L++M)else none
variable {k:List D→Option γ}
theorem Gf {b:Nat}{M:List D}(h:DH b L M k=some r):∃out,(L.length+M.length≤maxLen∧(L.length+M.length)*b≤140737488355328)∧L++M=out∧k out=some r:=by
 unfold DH at h
 simp_all
def Gg (L:List D) (l u:Int) (k:List D→Option γ):Option γ:=if 0≤l∧l≤u∧u≤(L.length:Int)then k ((L.take u.toNat).drop l.toNat)else none
variable {l u:Int}
theorem L9 (M:Au) (h:Gg L l u k=some r):∃out,(0≤l∧l≤u∧u≤M.lenI L)∧(L.take u.toNat).drop l.toNat=out∧k out=some r:=by
 unfold Gg at h
 split at h
 ·rename_i hb
  exact⟨_,by rw[M.lenI_eq];exact hb,rfl,h⟩
 ·cases h
def Yl (L:List D) (l:Int) (k:List D→Option γ):Option γ:=if 0≤l∧l≤(L.length:Int)then k (L.drop l.toNat)else none
theorem Wt (M:Au) (h:Yl L l k=some r):∃out,(0≤l∧l≤M.lenI L∧M.lenI L≤M.lenI L)∧(L.take (M.lenI L).toNat).drop l.toNat=out∧k out=some r:=by
 unfold Yl at h
 split at h
 ·rename_i hb
  exact⟨_,by rw[M.lenI_eq];simp_all,rfl,by rw[M.lenI_eq];simpa using h⟩
 ·cases h
def Kw (L:List D) (l u v:Int) (k:List D→Option γ):Option γ:=if 0≤l∧l≤u∧u≤(L.length:Int)∧v=u then k ((L.take u.toNat).drop l.toNat)else none
theorem KM (M:Au) {v:Int}(h:Kw L l u v k=some r):∃out,(0≤l∧l≤u∧u≤M.lenI L∧v=u)∧(L.take u.toNat).drop l.toNat=out∧k out=some r:=by
 unfold Kw at h
 split at h
 ·rename_i hb
  exact⟨_,by rw[M.lenI_eq];exact hb,rfl,h⟩
 ·cases h
open Classical in
noncomputable def Wu (L:List D) (A B:Option γ):Option γ:=if L=[]then (if A=B then B else none)else B
theorem Ym {A B:Option γ}(h:Wu L A B=some r):B=some r∧(L=[]→A=some r):=by
 unfold Wu at h
 grind
theorem jV {A B:Option γ}(h:L=[]→A=B):Wu L A B=B:=by
 unfold Wu
 simp_all
def Oa (b:Nat) (z:D) (n m:Int) (k:List D→Option γ):Option γ:=if n=m∧0≤n∧n≤9223372036854775807∧(b:Int)*n≤281474976710656 then k (List.replicate n.toNat z)else none
theorem Wv {b:Nat}{z:D}{n m:Int}(h:Oa b z n m k=some r):∃out,(n=m∧0≤n∧n≤9223372036854775807∧(b:Int)*n≤281474976710656)∧List.replicate n.toNat z=out∧k out=some r:=by
 unfold Oa at h
 grind
def Hs (L:List D) (k:List D→Option γ):Option γ:=k L
def Iq (L:List D):Bool:=L.all fun r=>r.cells.all fun c=>!D0 c
theorem JZ:Iq L=true↔LY L:=by
 simp[Iq,LY]
def SE (L:List D) (i:Nat) (x:D) (k:List D→Option γ):Option γ:=k (L.set i x)
theorem SF {i:Nat}{x:D}(h:SE L i x k=some r):∃out,L.set i x=out∧k out=some r:=⟨_,rfl,h⟩
def EJ (L:List D) (i:Nat) (k:D→Option γ):Option γ:=match L[i]? with | some x=>k x | none=>none
theorem Ed {i:Nat}{k:D→Option γ}(h:EJ L i k=some r):∃x,L[i]?=some x∧k x=some r:=by
 unfold EJ at h
 grind
def jW (s:ByteArray) (l u:Int) (k:ByteArray→Option γ):Option γ:=if 0≤l∧l≤u∧u≤(s.size:Int)then k (s.extract l.toNat u.toNat)else none
theorem SG (M:Au) {k:ByteArray→Option γ}(h:jW s l u k=some r):∃out,(0≤l∧l≤u∧u≤M.szI s)∧s.extract l.toNat u.toNat=out∧k out=some r:=by
 unfold jW at h
 split at h
 ·rename_i hb
  exact⟨_,by rw[M.szI_eq];exact hb,rfl,h⟩
 ·cases h
def UI (s:ByteArray) (l:Int) (k:ByteArray→Option γ):Option γ:=if 0≤l∧l≤(s.size:Int)then k (s.extract l.toNat s.size)else none
theorem UJ (M:Au) {k:ByteArray→Option γ}(h:UI s l k=some r):∃out,(0≤l∧l≤M.szI s∧M.szI s≤M.szI s)∧s.extract l.toNat (M.szI s).toNat=out∧k out=some r:=by
 unfold UI at h
 split at h
 ·rename_i hb
  exact⟨_,by rw[M.szI_eq];simp_all,rfl,by rw[M.szI_eq];simpa using h⟩
 ·cases h
def oB (s:ByteArray) (i:Int) (k:Int→Option γ):Option γ:=if 0≤i then (match (s[i.toNat]?).map (fun u=>(u.toNat:Int))with | some z=>k z | none=>none)else none
theorem jX {i:Int}{k:Int→Option γ}(h:oB s i k=some r):∃z,(0≤i∧(s[i.toNat]?).map (fun u=>(u.toNat:Int))=some z)∧k z=some r:=by
 unfold oB at h
 grind
def vX (x:Option Unit) (k:Option γ):Option γ:=match x with | some _=>k | none=>none
def Av {A1:Type}(x:Option (A1)) (k:A1→Option γ):Option γ:=match x with | some p=>k p | none=>none
variable {A1:Type}
theorem jY {x:Option (A1)}{k:A1→Option γ}(h:Av x k=some r):∃a1,x=some a1∧k a1=some r:=by
 cases x with
 | none=>cases h
 | some p=>exact⟨_,rfl,h⟩
def Ir {A1 A2:Type}(x:Option (A1×A2)) (k:A1→A2→Option γ):Option γ:=match x with | some p=>k p.1 p.2 | none=>none
def EK {A1 A2 A3:Type}(x:Option (A1×A2×A3)) (k:A1→A2→A3→Option γ):Option γ:=match x with | some p=>k p.1 p.2.1 p.2.2 | none=>none
def oC {A1 A2 A3 A4:Type}(x:Option (A1×A2×A3×A4)) (k:A1→A2→A3→A4→Option γ):Option γ:=match x with | some p=>k p.1 p.2.1 p.2.2.1 p.2.2.2 | none=>none
def jZ {A1 A2 A3 A4 A5:Type}(x:Option (A1×A2×A3×A4×A5)) (k:A1→A2→A3→A4→A5→Option γ):Option γ:=match x with | some p=>k p.1 p.2.1 p.2.2.1 p.2.2.2.1 p.2.2.2.2 | none=>none
def Kx {A1 A2 A3 A4 A5 A6:Type}(x:Option (A1×A2×A3×A4×A5×A6)) (k:A1→A2→A3→A4→A5→A6→Option γ):Option γ:=match x with | some p=>k p.1 p.2.1 p.2.2.1 p.2.2.2.1 p.2.2.2.2.1 p.2.2.2.2.2 | none=>none
def qL {A1 A2 A3 A4 A5 A6 A7:Type}(x:Option (A1×A2×A3×A4×A5×A6×A7)) (k:A1→A2→A3→A4→A5→A6→A7→Option γ):Option γ:=match x with | some p=>k p.1 p.2.1 p.2.2.1 p.2.2.2.1 p.2.2.2.2.1 p.2.2.2.2.2.1 p.2.2.2.2.2.2 | none=>none
def kA {A1 A2 A3 A4 A5 A6 A7 A8:Type}(x:Option (A1×A2×A3×A4×A5×A6×A7×A8)) (k:A1→A2→A3→A4→A5→A6→A7→A8→Option γ):Option γ:=match x with | some p=>k p.1 p.2.1 p.2.2.1 p.2.2.2.1 p.2.2.2.2.1 p.2.2.2.2.2.1 p.2.2.2.2.2.2.1 p.2.2.2.2.2.2.2 | none=>none
def kB {A1 A2 A3 A4 A5 A6 A7 A8 A9:Type}(x:Option (A1×A2×A3×A4×A5×A6×A7×A8×A9)) (k:A1→A2→A3→A4→A5→A6→A7→A8→A9→Option γ):Option γ:=match x with | some p=>k p.1 p.2.1 p.2.2.1 p.2.2.2.1 p.2.2.2.2.1 p.2.2.2.2.2.1 p.2.2.2.2.2.2.1 p.2.2.2.2.2.2.2.1 p.2.2.2.2.2.2.2.2 | none=>none
def BO {A1 A2 A3 A4 A5 A6 A7 A8 A9 A10:Type}(x:Option (A1×A2×A3×A4×A5×A6×A7×A8×A9×A10)) (k:A1→A2→A3→A4→A5→A6→A7→A8→A9→A10→Option γ):Option γ:=match x with | some p=>k p.1 p.2.1 p.2.2.1 p.2.2.2.1 p.2.2.2.2.1 p.2.2.2.2.2.1 p.2.2.2.2.2.2.1 p.2.2.2.2.2.2.2.1 p.2.2.2.2.2.2.2.2.1 p.2.2.2.2.2.2.2.2.2 | none=>none
variable {A2 A3 A4 A5 A6 A7 A8 A9 A10:Type}
theorem SH {x:Option (A1×A2×A3×A4×A5×A6×A7×A8×A9×A10)}{k:A1→A2→A3→A4→A5→A6→A7→A8→A9→A10→Option γ}(h:BO x k=some r):∃a1 a2 a3 a4 a5 a6 a7 a8 a9 a10,x=some (a1,a2,a3,a4,a5,a6,a7,a8,a9,a10)∧k a1 a2 a3 a4 a5 a6 a7 a8 a9 a10=some r:=by
 cases x with
 | none=>cases h
 | some p=>exact⟨_,_,_,_,_,_,_,_,_,_,rfl,h⟩
theorem Vh {a1 b1:A1}{a2 b2:A2}{a3 b3:A3}{a4 b4:A4}{a5 b5:A5}{a6 b6:A6}{a7 b7:A7}{a8 b8:A8}{a9 b9:A9}{a10 b10:A10}(h:some (a1,a2,a3,a4,a5,a6,a7,a8,a9,a10)=some (b1,b2,b3,b4,b5,b6,b7,b8,b9,b10)):a1=b1∧a2=b2∧a3=b3∧a4=b4∧a5=b5∧a6=b6∧a7=b7∧a8=b8∧a9=b9∧a10=b10:=by
 simp_all
def BW {A1 A2 A3 A4 A5 A6 A7 A8 A9 A10 A11:Type}(x:Option (A1×A2×A3×A4×A5×A6×A7×A8×A9×A10×A11)) (k:A1→A2→A3→A4→A5→A6→A7→A8→A9→A10→A11→Option γ):Option γ:=match x with | some p=>k p.1 p.2.1 p.2.2.1 p.2.2.2.1 p.2.2.2.2.1 p.2.2.2.2.2.1 p.2.2.2.2.2.2.1 p.2.2.2.2.2.2.2.1 p.2.2.2.2.2.2.2.2.1 p.2.2.2.2.2.2.2.2.2.1 p.2.2.2.2.2.2.2.2.2.2 | none=>none
theorem SI {A11:Type}{x:Option (A1×A2×A3×A4×A5×A6×A7×A8×A9×A10×A11)}{k:A1→A2→A3→A4→A5→A6→A7→A8→A9→A10→A11→Option γ}(h:BW x k=some r):∃a1 a2 a3 a4 a5 a6 a7 a8 a9 a10 a11,x=some (a1,a2,a3,a4,a5,a6,a7,a8,a9,a10,a11)∧k a1 a2 a3 a4 a5 a6 a7 a8 a9 a10 a11=some r:=by
 cases x with
 | none=>cases h
 | some p=>exact⟨_,_,_,_,_,_,_,_,_,_,_,rfl,h⟩
def MA {A1 A2 A3 A4 A5 A6 A7 A8 A9 A10 A11 A12 A13:Type}(x:Option (A1×A2×A3×A4×A5×A6×A7×A8×A9×A10×A11×A12×A13)) (k:A1→A2→A3→A4→A5→A6→A7→A8→A9→A10→A11→A12→A13→Option γ):Option γ:=match x with | some p=>k p.1 p.2.1 p.2.2.1 p.2.2.2.1 p.2.2.2.2.1 p.2.2.2.2.2.1 p.2.2.2.2.2.2.1 p.2.2.2.2.2.2.2.1 p.2.2.2.2.2.2.2.2.1 p.2.2.2.2.2.2.2.2.2.1 p.2.2.2.2.2.2.2.2.2.2.1 p.2.2.2.2.2.2.2.2.2.2.2.1 p.2.2.2.2.2.2.2.2.2.2.2.2 | none=>none
def UK {A1 A2 A3 A4 A5 A6 A7 A8 A9 A10 A11 A12 A13 A14 A15 A16 A17:Type}(x:Option (A1×A2×A3×A4×A5×A6×A7×A8×A9×A10×A11×A12×A13×A14×A15×A16×A17)) (k:A1→A2→A3→A4→A5→A6→A7→A8→A9→A10→A11→A12→A13→A14→A15→A16→A17→Option γ):Option γ:=match x with | some p=>k p.1 p.2.1 p.2.2.1 p.2.2.2.1 p.2.2.2.2.1 p.2.2.2.2.2.1 p.2.2.2.2.2.2.1 p.2.2.2.2.2.2.2.1 p.2.2.2.2.2.2.2.2.1 p.2.2.2.2.2.2.2.2.2.1 p.2.2.2.2.2.2.2.2.2.2.1 p.2.2.2.2.2.2.2.2.2.2.2.1 p.2.2.2.2.2.2.2.2.2.2.2.2.1 p.2.2.2.2.2.2.2.2.2.2.2.2.2.1 p.2.2.2.2.2.2.2.2.2.2.2.2.2.2.1 p.2.2.2.2.2.2.2.2.2.2.2.2.2.2.2.1 p.2.2.2.2.2.2.2.2.2.2.2.2.2.2.2.2 | none=>none
def UL {A1 A2 A3 A4 A5 A6 A7 A8 A9 A10 A11 A12 A13 A14 A15 A16 A17 A18:Type}(x:Option (A1×A2×A3×A4×A5×A6×A7×A8×A9×A10×A11×A12×A13×A14×A15×A16×A17×A18)) (k:A1→A2→A3→A4→A5→A6→A7→A8→A9→A10→A11→A12→A13→A14→A15→A16→A17→A18→Option γ):Option γ:=match x with | some p=>k p.1 p.2.1 p.2.2.1 p.2.2.2.1 p.2.2.2.2.1 p.2.2.2.2.2.1 p.2.2.2.2.2.2.1 p.2.2.2.2.2.2.2.1 p.2.2.2.2.2.2.2.2.1 p.2.2.2.2.2.2.2.2.2.1 p.2.2.2.2.2.2.2.2.2.2.1 p.2.2.2.2.2.2.2.2.2.2.2.1 p.2.2.2.2.2.2.2.2.2.2.2.2.1 p.2.2.2.2.2.2.2.2.2.2.2.2.2.1 p.2.2.2.2.2.2.2.2.2.2.2.2.2.2.1 p.2.2.2.2.2.2.2.2.2.2.2.2.2.2.2.1 p.2.2.2.2.2.2.2.2.2.2.2.2.2.2.2.2.1 p.2.2.2.2.2.2.2.2.2.2.2.2.2.2.2.2.2 | none=>none
def Ww {A1 A2 A3 A4 A5 A6 A7 A8 A9 A10 A11 A12 A13 A14 A15 A16 A17 A18 A19 A20:Type}(x:Option (A1×A2×A3×A4×A5×A6×A7×A8×A9×A10×A11×A12×A13×A14×A15×A16×A17×A18×A19×A20)) (k:A1→A2→A3→A4→A5→A6→A7→A8→A9→A10→A11→A12→A13→A14→A15→A16→A17→A18→A19→A20→Option γ):Option γ:=match x with | some p=>k p.1 p.2.1 p.2.2.1 p.2.2.2.1 p.2.2.2.2.1 p.2.2.2.2.2.1 p.2.2.2.2.2.2.1 p.2.2.2.2.2.2.2.1 p.2.2.2.2.2.2.2.2.1 p.2.2.2.2.2.2.2.2.2.1 p.2.2.2.2.2.2.2.2.2.2.1 p.2.2.2.2.2.2.2.2.2.2.2.1 p.2.2.2.2.2.2.2.2.2.2.2.2.1 p.2.2.2.2.2.2.2.2.2.2.2.2.2.1 p.2.2.2.2.2.2.2.2.2.2.2.2.2.2.1 p.2.2.2.2.2.2.2.2.2.2.2.2.2.2.2.1 p.2.2.2.2.2.2.2.2.2.2.2.2.2.2.2.2.1 p.2.2.2.2.2.2.2.2.2.2.2.2.2.2.2.2.2.1 p.2.2.2.2.2.2.2.2.2.2.2.2.2.2.2.2.2.2.1 p.2.2.2.2.2.2.2.2.2.2.2.2.2.2.2.2.2.2.2 | none=>none
def kC {A1 A2 A3 A4 A5 A6 A7 A8 A9 A10 A11 A12 A13 A14 A15 A16 A17 A18 A19 A20 A21 A22:Type}(x:Option (A1×A2×A3×A4×A5×A6×A7×A8×A9×A10×A11×A12×A13×A14×A15×A16×A17×A18×A19×A20×A21×A22)) (k:A1→A2→A3→A4→A5→A6→A7→A8→A9→A10→A11→A12→A13→A14→A15→A16→A17→A18→A19→A20→A21→A22→Option γ):Option γ:=match x with | some p=>k p.1 p.2.1 p.2.2.1 p.2.2.2.1 p.2.2.2.2.1 p.2.2.2.2.2.1 p.2.2.2.2.2.2.1 p.2.2.2.2.2.2.2.1 p.2.2.2.2.2.2.2.2.1 p.2.2.2.2.2.2.2.2.2.1 p.2.2.2.2.2.2.2.2.2.2.1 p.2.2.2.2.2.2.2.2.2.2.2.1 p.2.2.2.2.2.2.2.2.2.2.2.2.1 p.2.2.2.2.2.2.2.2.2.2.2.2.2.1 p.2.2.2.2.2.2.2.2.2.2.2.2.2.2.1 p.2.2.2.2.2.2.2.2.2.2.2.2.2.2.2.1 p.2.2.2.2.2.2.2.2.2.2.2.2.2.2.2.2.1 p.2.2.2.2.2.2.2.2.2.2.2.2.2.2.2.2.2.1 p.2.2.2.2.2.2.2.2.2.2.2.2.2.2.2.2.2.2.1 p.2.2.2.2.2.2.2.2.2.2.2.2.2.2.2.2.2.2.2.1 p.2.2.2.2.2.2.2.2.2.2.2.2.2.2.2.2.2.2.2.2.1 p.2.2.2.2.2.2.2.2.2.2.2.2.2.2.2.2.2.2.2.2.2 | none=>none
end
end
end Go.AM
namespace Go.AM
open Go
def sI (n:Nat) (z:Int):Nat×AV:=(n,.v (.d (.int .i64 z)))
def sU (n:Nat) (z:Int):Nat×AV:=(n,.v (.d (.int .u8 z)))
def sB (n:Nat) (b:Bool):Nat×AV:=(n,.v (.d (.bool b)))
def sT (n s:Nat) (l:List D):Nat×AV:=(n,.v (.d (.list true s l)))
def sF (n s:Nat) (l:List D):Nat×AV:=(n,.v (.d (.list false s l)))
def sL (n i:Nat):Nat×AV:=(n,.v (.c (.ptr (.loc i) 0)))
def sE (n i:Nat):Nat×AV:=(n,.v (.c (.ptr (.ext i) 0)))
def sS (n:Nat) (b:ByteArray):Nat×AV:=(n,.v (.d (.str b)))
abbrev LD:=List D
abbrev BA:=ByteArray
theorem itT {γ:Type}{x y r:Option γ}(h:(if true=true then x else y)=r):x=r:=h
theorem itF {γ:Type}{x y r:Option γ}(h:(if false=true then x else y)=r):y=r:=h
end Go.AM
namespace Go.AM
open Go
def Ev {α:Type}(A:Nat→Option α) (r:α):Prop:=∃N,∀n,N≤n→A n=some r
section
variable {α β γ:Type}
section
variable {r:α}
theorem Ev.ret:Ev (fun _=>some r) r:=⟨0,fun _ _=>rfl⟩
variable {A:Nat→Option α}
theorem Ev.of (h:∀n,A n=some r):Ev A r:=⟨0,fun n _=>h n⟩
theorem Ev.succ (h:Ev (fun n=>A (n+1)) r):Ev A r:=by
 obtain⟨N,h⟩:=h
 refine⟨N+1,fun n hn=>?_⟩
 obtain⟨m,rfl⟩:∃m,n=m+1:=⟨n - 1,by omega⟩
 exact h m (by omega)
theorem Ev.run (h:Ev A r):∃n,A n=some r:=let ⟨N,h⟩:=h;⟨N,h N (Nat.le_refl _)⟩
end
end
section
variable {γ:Type}
theorem Wx {x:Int}(h: -9223372036854775808≤x∧x≤9223372036854775807):IntKind.i64.wrap x=x:=IntWalk.i64_in x h
end
def Fw (ti:Types) (e:TypeId) (x:D):Prop:=Shape ti e x.cells∧∀y,ti e=some y→x.isAgg=AR y.desc
def AB (ti:Types) (e:TypeId) (L:List D):Prop:=L.length≤maxLen∧∀x∈L,Fw ti e x
def Pp (ti:Types) (rec:TypeId→Option (List TypeId)):Nat→List Field→Option (List TypeId)
 | _,[]=>some []
 | off,f::r=>match Nat.beq f.offset off with
  | false=>none
  | true=>match ti f.type with
   | none=>none
   | some y=>match rec f.type with
    | none=>none
    | some l=>match Nat.beq l.length y.size with
     | false=>none
     | true=>match Pp ti rec (off+y.size) r with
      | none=>none
      | some l'=>some (l++l')
def Yn (ti:Types):Nat→TypeId→Option (List TypeId)
 | 0,_=>none
 | n+1,t=>match ti t with
  | none=>none
  | some x=>match x.desc with
   | .struct fs=>match Pp ti (Yn ti n) 0 fs.toList with
    | none=>none
    | some l=>match Nat.beq l.length x.size with
     | true=>some l
     | false=>none
   | .array ..=>none
   | _=>some [t]
section
variable {ti:Types}{t:TypeId}{x:TI}
theorem Shape.one {ds:List D}(h:Shape ti t ds) (hx:ti t=some x) (hd:∀fs,x.desc≠ .struct fs):∃c,ds=[c]:=by
 cases h with
 | struct ds h1 h2=>simp_all
 | _=>exact⟨_,rfl⟩
theorem Ob {ti:Types}{rec:TypeId→Option (List TypeId)}{ds:List D}
  (hrec:∀t ls cs,rec t=some ls→Shape ti t cs→cs.length=ls.length∧∀(j:Nat) c tl,cs[j]?=some c→ls[j]?=some tl→Shape ti tl [c]):
  ∀(fs:List Field) (off:Nat) (ls:List TypeId),Pp ti rec off fs=some ls→(∀f∈fs,∀y,ti f.type=some y→Shape ti f.type ((ds.drop f.offset).take y.size))→
   ∀(j:Nat) c tl,ds[off+j]?=some c→ls[j]?=some tl→Shape ti tl [c]
 | [],off,ls,h,_,j,c,tl,_,hl=>by
  cases h;simp at hl
 | f::fs,off,ls,h,hs,j,c,tl,hc,hl=>by
  unfold Pp at h
  split at h
  ·cases h
  ·rename_i ho
   have ho:=Nat.eq_of_beq_eq_true ho
   split at h
   ·cases h
   ·rename_i y hy
    split at h
    ·cases h
    ·rename_i l hr
     split at h
     ·cases h
     ·rename_i hb
      have hb:=Nat.eq_of_beq_eq_true hb
      split at h
      ·cases h
      ·rename_i l' hl'
       cases h
       obtain⟨h1,h2⟩:=hrec _ _ _ hr (hs f (by simp) y hy)
       by_cases hj:j<l.length
       ·grind
       ·rw[List.getElem?_append_right (by omega)]at hl
        refine Ob hrec fs _ l' hl' (fun f' hf'=>hs f' (List.mem_cons_of_mem _ hf')) (j - l.length) c tl ?_ hl
        grind
theorem Shape.flat:
  ∀(n:Nat) (t:TypeId) (ls:List TypeId) (ds:List D),Yn ti n t=some ls→Shape ti t ds→ds.length=ls.length∧∀(j:Nat) c tl,ds[j]?=some c→ls[j]?=some tl→Shape ti tl [c]
 | 0,t,ls,ds,h,_=>by cases h
 | n+1,t,ls,ds,h,hs=>by
  unfold Yn at h
  split at h
  ·cases h
  ·rename_i x hx
   have single:(∀fs,x.desc≠ .struct fs)→ls=[t]→ds.length=ls.length∧∀(j:Nat) c tl,ds[j]?=some c→ls[j]?=some tl→Shape ti tl [c]:=by
    rintro hd rfl
    obtain⟨c,rfl⟩:=hs.one hx hd
    grind
   split at h
   ·rename_i fs hd
    obtain⟨h1,_,h3⟩:=hs.VO hx hd
    split at h
    ·cases h
    ·rename_i l hl
     split at h
     ·rename_i hb
      cases h
      refine⟨h1.trans (Nat.eq_of_beq_eq_true hb).symm,fun j c tl h4 h5=>?_⟩
      exact Ob (fun t ls cs h6 h7=>Shape.flat n t ls cs h6 h7) fs.toList 0 ls hl h3 j c tl (by simpa using h4) h5
     ·cases h
   ·cases h
   grind
variable {e:TypeId}
theorem Fw.agg {x:D}{y:TI}(h:Fw ti e x) (hy:ti e=some y) (hr:AR y.desc=true):∃cs,x= .agg cs∧Shape ti e cs:=by
 have h1:=(h.2 y hy).trans hr
 cases x<;>simp[D.isAgg]at h1
 exact⟨_,rfl,h.1⟩
theorem Fw.zP {x:D}{y:TI}(h:Fw ti e x) (hy:ti e=some y) (hr:AR y.desc=false):Shape ti e [x]:=by
 have h1:=(h.2 y hy).trans hr
 have h0:=h.1
 cases x<;>simp_all [D.isAgg,D.cells]
theorem Shape.Di {y:TI}{c:D}(h:Shape ti t [c]) (hx:ti t=some x) (hd:x.desc= .slice e) (hy:ti e=some y):
  ∃L,c= .list (AR y.desc) y.size L∧AB ti e L:=by
 obtain⟨L,e1,h1,h2,h3⟩:=h.Xm hx hd hy
 refine⟨L,(List.cons.inj e1).1,h1,fun r hr=>⟨h3 r hr,fun y' hy'=>?_⟩⟩
 rw[hy]at hy'
 obtain rfl:=Option.some.inj hy'
 exact (h2 r hr).1
theorem Shape.IJ {k:IntKind}{c:D}(h:Shape ti t [c]) (hx:ti t=some x) (hd:x.desc= .int k):∃n,c= .int k n∧(Lit.int k n).wf=true:=by
 obtain⟨n,e,hw⟩:=h.nB hx hd
 simp_all
theorem Shape.GI {c:D}(h:Shape ti t [c]) (hx:ti t=some x) (hd:x.desc= .string):∃s,c= .str s∧s.size≤maxLen:=by
 obtain⟨n,e,hw⟩:=h.nC hx hd
 simp_all
end
end Go.AM
namespace Go.AM
open Go
section
variable {ti:Types}{e:TypeId}
theorem AB.nil:AB ti e []:=⟨Nat.zero_le _,by simp⟩
theorem AB.cons {x:D}{L:List D}(hx:Fw ti e x) (h:AB ti e L) (hl:L.length+1≤maxLen):AB ti e (x::L):=⟨by simpa using hl,fun y hy=>by
 rcases List.mem_cons.1 hy with rfl | hy
 ·exact hx
 ·exact h.2 y hy⟩
theorem AB.one {x:D}(hx:Fw ti e x):AB ti e [x]:=.cons hx .nil (by simp[maxLen])
theorem AB.mem {L:List D}(h:AB ti e L) {i:Nat}{x:D}(hx:L[i]?=some x):Fw ti e x:=h.2 x (List.mem_of_getElem? hx)
end
end Go.AM
set_option linter.unusedVariables false
noncomputable section
namespace Go.Proofs.YtjfmnfncmfepnaaGreatDoor
open Go Go.AM
section
variable {l:List D}
theorem vY (h:l.length=1):∃x0,l=[x0]:=by
 match l,h with
 | [x0],_=>exact⟨x0,rfl⟩
theorem oD (h:l.length=3):∃x0 x1 x2,l=[x0,x1,x2]:=by
 match l,h with
 | [x0,x1,x2],_=>simp_all
theorem wE (h:l.length=4):∃x0 x1 x2 x3,l=[x0,x1,x2,x3]:=by
 match l,h with
 | [x0,x1,x2,x3],_=>simp_all
theorem wH (h:l.length=8):∃x0 x1 x2 x3 x4 x5 x6 x7,l=[x0,x1,x2,x3,x4,x5,x6,x7]:=by
 match l,h with
 | [x0,x1,x2,x3,x4,x5,x6,x7],_=>simp_all
theorem qM (h:l.length=15):∃x0 x1 x2 x3 x4 x5 x6 x7 x8 x9 x10 x11 x12 x13 x14,l=[x0,x1,x2,x3,x4,x5,x6,x7,x8,x9,x10,x11,x12,x13,x14]:=by
 match l,h with
 | [x0,x1,x2,x3,x4,x5,x6,x7,x8,x9,x10,x11,x12,x13,x14],_=>simp_all
theorem qN (h:l.length=16):∃x0 x1 x2 x3 x4 x5 x6 x7 x8 x9 x10 x11 x12 x13 x14 x15,l=[x0,x1,x2,x3,x4,x5,x6,x7,x8,x9,x10,x11,x12,x13,x14,x15]:=by
 match l,h with
 | [x0,x1,x2,x3,x4,x5,x6,x7,x8,x9,x10,x11,x12,x13,x14,x15],_=>simp_all
variable {x:D}
theorem uP (h:Fw Ac 9 x):∃a0,x= .str a0∧a0.size≤maxLen:=by
 have hs:=h.zP (y:=CN Ac 9) (by kernel_rfl) rfl
 have hl:=hs.flat 9 9 [9] [x] (by kernel_rfl)
 obtain⟨a0,rfl,w0⟩:=(hl.2 0 x 9 rfl rfl).GI (x:=CN Ac 9) (by kernel_rfl) rfl
 exact⟨_,rfl,w0⟩
theorem wJ (h:Fw Ac 48 x):∃a0 a1 a2,x= .agg [.int .u8 a0,.str a1,.list true 3 a2]∧(Lit.int .u8 a0).wf=true∧a1.size≤maxLen∧AB Ac 48 a2:=by
 obtain⟨cs,rfl,hs⟩:=h.agg (y:=CN Ac 48) (by kernel_rfl) rfl
 have hl:=hs.flat 9 48 [5,9,46] cs (by kernel_rfl)
 obtain⟨b0,b1,b2,rfl⟩:=oD hl.1
 obtain⟨a0,rfl,w0⟩:=(hl.2 0 b0 5 rfl rfl).IJ (x:=CN Ac 5) (by kernel_rfl) rfl
 obtain⟨a1,rfl,w1⟩:=(hl.2 1 b1 9 rfl rfl).GI (x:=CN Ac 9) (by kernel_rfl) rfl
 obtain⟨a2,e2,w2⟩:=(hl.2 2 b2 46 rfl rfl).Di (x:=CN Ac 46) (y:=CN Ac 48) (by kernel_rfl) rfl (by kernel_rfl)
 obtain rfl:b2= .list true 3 a2:=e2
 grind
theorem ABb (h:Fw Ac 54 x):∃a0 a1 a2 a3 a4 a5 a6 a7,x= .agg [.int .u8 a0,.int .i64 a1,.str a2,.str a3,.str a4,.list false 1 a5,.list true 8 a6,.int .i64 a7]∧(Lit.int .u8 a0).wf=true∧(Lit.int .i64 a1).wf=true∧a2.size≤maxLen∧a3.size≤maxLen∧a4.size≤maxLen∧AB Ac 9 a5∧AB Ac 54 a6∧(Lit.int .i64 a7).wf=true:=by
 obtain⟨cs,rfl,hs⟩:=h.agg (y:=CN Ac 54) (by kernel_rfl) rfl
 have hl:=hs.flat 9 54 [5,2,9,9,9,42,52,3] cs (by kernel_rfl)
 obtain⟨b0,b1,b2,b3,b4,b5,b6,b7,rfl⟩:=wH hl.1
 obtain⟨a0,rfl,w0⟩:=(hl.2 0 b0 5 rfl rfl).IJ (x:=CN Ac 5) (by kernel_rfl) rfl
 obtain⟨a1,rfl,w1⟩:=(hl.2 1 b1 2 rfl rfl).IJ (x:=CN Ac 2) (by kernel_rfl) rfl
 obtain⟨a2,rfl,w2⟩:=(hl.2 2 b2 9 rfl rfl).GI (x:=CN Ac 9) (by kernel_rfl) rfl
 obtain⟨a3,rfl,w3⟩:=(hl.2 3 b3 9 rfl rfl).GI (x:=CN Ac 9) (by kernel_rfl) rfl
 obtain⟨a4,rfl,w4⟩:=(hl.2 4 b4 9 rfl rfl).GI (x:=CN Ac 9) (by kernel_rfl) rfl
 obtain⟨a5,e5,w5⟩:=(hl.2 5 b5 42 rfl rfl).Di (x:=CN Ac 42) (y:=CN Ac 9) (by kernel_rfl) rfl (by kernel_rfl)
 obtain rfl:b5= .list false 1 a5:=e5
 obtain⟨a6,e6,w6⟩:=(hl.2 6 b6 52 rfl rfl).Di (x:=CN Ac 52) (y:=CN Ac 54) (by kernel_rfl) rfl (by kernel_rfl)
 obtain rfl:b6= .list true 8 a6:=e6
 obtain⟨a7,rfl,w7⟩:=(hl.2 7 b7 3 rfl rfl).IJ (x:=CN Ac 3) (by kernel_rfl) rfl
 grind
theorem kD (h:Fw Ac 58 x):∃a0 a1 a2 a3,x= .agg [.str a0,.int .u8 a1,.str a2,.list true 3 a3]∧a0.size≤maxLen∧(Lit.int .u8 a1).wf=true∧a2.size≤maxLen∧AB Ac 48 a3:=by
 obtain⟨cs,rfl,hs⟩:=h.agg (y:=CN Ac 58) (by kernel_rfl) rfl
 have hl:=hs.flat 9 58 [9,5,9,46] cs (by kernel_rfl)
 obtain⟨b0,b1,b2,b3,rfl⟩:=wE hl.1
 obtain⟨a0,rfl,w0⟩:=(hl.2 0 b0 9 rfl rfl).GI (x:=CN Ac 9) (by kernel_rfl) rfl
 obtain⟨a1,rfl,w1⟩:=(hl.2 1 b1 5 rfl rfl).IJ (x:=CN Ac 5) (by kernel_rfl) rfl
 obtain⟨a2,rfl,w2⟩:=(hl.2 2 b2 9 rfl rfl).GI (x:=CN Ac 9) (by kernel_rfl) rfl
 obtain⟨a3,e3,w3⟩:=(hl.2 3 b3 46 rfl rfl).Di (x:=CN Ac 46) (y:=CN Ac 48) (by kernel_rfl) rfl (by kernel_rfl)
 obtain rfl:b3= .list true 3 a3:=e3
 grind
theorem Wy (h:Fw Ac 96 x):∃a0 a1 a2,x= .agg [.str a0,.str a1,.list true 15 a2]∧a0.size≤maxLen∧a1.size≤maxLen∧AB Ac 90 a2:=by
 obtain⟨cs,rfl,hs⟩:=h.agg (y:=CN Ac 96) (by kernel_rfl) rfl
 have hl:=hs.flat 9 96 [9,9,49] cs (by kernel_rfl)
 obtain⟨b0,b1,b2,rfl⟩:=oD hl.1
 obtain⟨a0,rfl,w0⟩:=(hl.2 0 b0 9 rfl rfl).GI (x:=CN Ac 9) (by kernel_rfl) rfl
 obtain⟨a1,rfl,w1⟩:=(hl.2 1 b1 9 rfl rfl).GI (x:=CN Ac 9) (by kernel_rfl) rfl
 obtain⟨a2,e2,w2⟩:=(hl.2 2 b2 49 rfl rfl).Di (x:=CN Ac 49) (y:=CN Ac 90) (by kernel_rfl) rfl (by kernel_rfl)
 obtain rfl:b2= .list true 15 a2:=e2
 grind
theorem qO (h:Fw Ac 90 x):∃a0 a1 a2 a3 a4 a5 a6 a7 a8 a9 a10 a11 a12 a13 a14,x= .agg [.int .u8 a0,.str a1,.str a2,.list false 1 a3,.int .u8 a4,.str a5,.list true 3 a6,.int .i64 a7,.str a8,.list false 1 a9,.list true 8 a10,.list true 15 a11,.list true 15 a12,.list true 3 a13,.int .i64 a14]∧(Lit.int .u8 a0).wf=true∧a1.size≤maxLen∧a2.size≤maxLen∧AB Ac 9 a3∧(Lit.int .u8 a4).wf=true∧a5.size≤maxLen∧AB Ac 48 a6∧(Lit.int .i64 a7).wf=true∧a8.size≤maxLen∧AB Ac 9 a9∧AB Ac 54 a10∧AB Ac 90 a11∧AB Ac 90 a12∧AB Ac 96 a13∧(Lit.int .i64 a14).wf=true:=by
 obtain⟨cs,rfl,hs⟩:=h.agg (y:=CN Ac 90) (by kernel_rfl) rfl
 have hl:=hs.flat 9 90 [5,9,9,42,5,9,46,2,9,42,52,49,49,88,3] cs (by kernel_rfl)
 obtain⟨b0,b1,b2,b3,b4,b5,b6,b7,b8,b9,b10,b11,b12,b13,b14,rfl⟩:=qM hl.1
 obtain⟨a0,rfl,w0⟩:=(hl.2 0 b0 5 rfl rfl).IJ (x:=CN Ac 5) (by kernel_rfl) rfl
 obtain⟨a1,rfl,w1⟩:=(hl.2 1 b1 9 rfl rfl).GI (x:=CN Ac 9) (by kernel_rfl) rfl
 obtain⟨a2,rfl,w2⟩:=(hl.2 2 b2 9 rfl rfl).GI (x:=CN Ac 9) (by kernel_rfl) rfl
 obtain⟨a3,e3,w3⟩:=(hl.2 3 b3 42 rfl rfl).Di (x:=CN Ac 42) (y:=CN Ac 9) (by kernel_rfl) rfl (by kernel_rfl)
 obtain rfl:b3= .list false 1 a3:=e3
 obtain⟨a4,rfl,w4⟩:=(hl.2 4 b4 5 rfl rfl).IJ (x:=CN Ac 5) (by kernel_rfl) rfl
 obtain⟨a5,rfl,w5⟩:=(hl.2 5 b5 9 rfl rfl).GI (x:=CN Ac 9) (by kernel_rfl) rfl
 obtain⟨a6,e6,w6⟩:=(hl.2 6 b6 46 rfl rfl).Di (x:=CN Ac 46) (y:=CN Ac 48) (by kernel_rfl) rfl (by kernel_rfl)
 obtain rfl:b6= .list true 3 a6:=e6
 obtain⟨a7,rfl,w7⟩:=(hl.2 7 b7 2 rfl rfl).IJ (x:=CN Ac 2) (by kernel_rfl) rfl
 obtain⟨a8,rfl,w8⟩:=(hl.2 8 b8 9 rfl rfl).GI (x:=CN Ac 9) (by kernel_rfl) rfl
 obtain⟨a9,e9,w9⟩:=(hl.2 9 b9 42 rfl rfl).Di (x:=CN Ac 42) (y:=CN Ac 9) (by kernel_rfl) rfl (by kernel_rfl)
 obtain rfl:b9= .list false 1 a9:=e9
 obtain⟨a10,Nc,w10⟩:=(hl.2 10 b10 52 rfl rfl).Di (x:=CN Ac 52) (y:=CN Ac 54) (by kernel_rfl) rfl (by kernel_rfl)
 obtain rfl:b10= .list true 8 a10:=Nc
 obtain⟨a11,e11,w11⟩:=(hl.2 11 b11 49 rfl rfl).Di (x:=CN Ac 49) (y:=CN Ac 90) (by kernel_rfl) rfl (by kernel_rfl)
 obtain rfl:b11= .list true 15 a11:=e11
 obtain⟨a12,e12,w12⟩:=(hl.2 12 b12 49 rfl rfl).Di (x:=CN Ac 49) (y:=CN Ac 90) (by kernel_rfl) rfl (by kernel_rfl)
 obtain rfl:b12= .list true 15 a12:=e12
 obtain⟨a13,e13,w13⟩:=(hl.2 13 b13 88 rfl rfl).Di (x:=CN Ac 88) (y:=CN Ac 96) (by kernel_rfl) rfl (by kernel_rfl)
 obtain rfl:b13= .list true 3 a13:=e13
 obtain⟨a14,rfl,w14⟩:=(hl.2 14 b14 3 rfl rfl).IJ (x:=CN Ac 3) (by kernel_rfl) rfl
 grind
theorem kE (h:Fw Ac 56 x):∃a0 a1 a2 a3 a4 a5 a6 a7 a8 a9 a10 a11 a12 a13 a14 a15,x= .agg [.int .u8 a0,.str a1,.list true 4 a2,.int .u8 a3,.str a4,.list true 3 a5,.list true 15 a6,.int .u8 a7,.int .i64 a8,.str a9,.str a10,.str a11,.list false 1 a12,.list true 8 a13,.int .i64 a14,.int .i64 a15]∧(Lit.int .u8 a0).wf=true∧a1.size≤maxLen∧AB Ac 58 a2∧(Lit.int .u8 a3).wf=true∧a4.size≤maxLen∧AB Ac 48 a5∧AB Ac 90 a6∧(Lit.int .u8 a7).wf=true∧(Lit.int .i64 a8).wf=true∧a9.size≤maxLen∧a10.size≤maxLen∧a11.size≤maxLen∧AB Ac 9 a12∧AB Ac 54 a13∧(Lit.int .i64 a14).wf=true∧(Lit.int .i64 a15).wf=true:=by
 obtain⟨cs,rfl,hs⟩:=h.agg (y:=CN Ac 56) (by kernel_rfl) rfl
 have hl:=hs.flat 9 56 [5,9,45,5,9,46,49,5,2,9,9,9,42,52,3,3] cs (by kernel_rfl)
 obtain⟨b0,b1,b2,b3,b4,b5,b6,b7,b8,b9,b10,b11,b12,b13,b14,b15,rfl⟩:=qN hl.1
 obtain⟨a0,rfl,w0⟩:=(hl.2 0 b0 5 rfl rfl).IJ (x:=CN Ac 5) (by kernel_rfl) rfl
 obtain⟨a1,rfl,w1⟩:=(hl.2 1 b1 9 rfl rfl).GI (x:=CN Ac 9) (by kernel_rfl) rfl
 obtain⟨a2,e2,w2⟩:=(hl.2 2 b2 45 rfl rfl).Di (x:=CN Ac 45) (y:=CN Ac 58) (by kernel_rfl) rfl (by kernel_rfl)
 obtain rfl:b2= .list true 4 a2:=e2
 obtain⟨a3,rfl,w3⟩:=(hl.2 3 b3 5 rfl rfl).IJ (x:=CN Ac 5) (by kernel_rfl) rfl
 obtain⟨a4,rfl,w4⟩:=(hl.2 4 b4 9 rfl rfl).GI (x:=CN Ac 9) (by kernel_rfl) rfl
 obtain⟨a5,e5,w5⟩:=(hl.2 5 b5 46 rfl rfl).Di (x:=CN Ac 46) (y:=CN Ac 48) (by kernel_rfl) rfl (by kernel_rfl)
 obtain rfl:b5= .list true 3 a5:=e5
 obtain⟨a6,e6,w6⟩:=(hl.2 6 b6 49 rfl rfl).Di (x:=CN Ac 49) (y:=CN Ac 90) (by kernel_rfl) rfl (by kernel_rfl)
 obtain rfl:b6= .list true 15 a6:=e6
 obtain⟨a7,rfl,w7⟩:=(hl.2 7 b7 5 rfl rfl).IJ (x:=CN Ac 5) (by kernel_rfl) rfl
 obtain⟨a8,rfl,w8⟩:=(hl.2 8 b8 2 rfl rfl).IJ (x:=CN Ac 2) (by kernel_rfl) rfl
 obtain⟨a9,rfl,w9⟩:=(hl.2 9 b9 9 rfl rfl).GI (x:=CN Ac 9) (by kernel_rfl) rfl
 obtain⟨a10,rfl,w10⟩:=(hl.2 10 b10 9 rfl rfl).GI (x:=CN Ac 9) (by kernel_rfl) rfl
 obtain⟨a11,rfl,w11⟩:=(hl.2 11 b11 9 rfl rfl).GI (x:=CN Ac 9) (by kernel_rfl) rfl
 obtain⟨a12,e12,w12⟩:=(hl.2 12 b12 42 rfl rfl).Di (x:=CN Ac 42) (y:=CN Ac 9) (by kernel_rfl) rfl (by kernel_rfl)
 obtain rfl:b12= .list false 1 a12:=e12
 obtain⟨a13,e13,w13⟩:=(hl.2 13 b13 52 rfl rfl).Di (x:=CN Ac 52) (y:=CN Ac 54) (by kernel_rfl) rfl (by kernel_rfl)
 obtain rfl:b13= .list true 8 a13:=e13
 obtain⟨a14,rfl,w14⟩:=(hl.2 14 b14 3 rfl rfl).IJ (x:=CN Ac 3) (by kernel_rfl) rfl
 obtain⟨a15,rfl,w15⟩:=(hl.2 15 b15 3 rfl rfl).IJ (x:=CN Ac 3) (by kernel_rfl) rfl
 grind
theorem ABc (h:Fw Ac 24 x):∃a0,x= .agg [.list true 16 a0]∧AB Ac 56 a0:=by
 obtain⟨cs,rfl,hs⟩:=h.agg (y:=CN Ac 24) (by kernel_rfl) rfl
 have hl:=hs.flat 9 24 [22] cs (by kernel_rfl)
 obtain⟨b0,rfl⟩:=vY hl.1
 obtain⟨a0,e0,w0⟩:=(hl.2 0 b0 22 rfl rfl).Di (x:=CN Ac 22) (y:=CN Ac 56) (by kernel_rfl) rfl (by kernel_rfl)
 obtain rfl:b0= .list true 16 a0:=e0
 exact⟨_,rfl,w0⟩
end
end Go.Proofs.YtjfmnfncmfepnaaGreatDoor
end
namespace Go.AM
open Go Go.RowKit
def zW (p:Id→Bool):FC→Bool
 | .p i=>p i
 | _=>true
def kF (p:Id→Bool):CV→Bool
 | .ptr i _=>p i
 | .fn _ cap=>BZ p cap
 | .lst i _ _ _=>p i
 | .sl i _=>p i
 | .map i=>p i
 | .ap i _ _ _ _=>p i
 | .ow i=>p i
 | .op i _ _ _=>p i
 | .yl i=>p i
 | .bm _ i=>p i
 | .fz _ cs=>BZ (zW p) cs
 | .fb i=>p i
 | _=>true
def wR (p:Id→Bool):V1→Bool
 | .d _=>true
 | .c x=>kF p x
 | .agg cs=>BZ (kF p) cs
def qP (p:Id→Bool):AV→Bool
 | .u=>true
 | .v x=>wR p x
 | .t xs=>BZ (wR p) xs
 | .df _ cs _=>BZ (zW p) cs
def MB (p:Id→Bool):AD→Bool
 | .cells cs=>BZ (kF p) cs
 | .tok ..=>true
 | .map ..=>true
 | .arr cs1 _ _ _ cs2=>match BZ (kF p) cs1 with
  | true=>BZ (kF p) cs2
  | false=>false
 | .tree _ _ _ _ foc=>match foc with
  | some x=>BZ (kF p) x.2
  | none=>true
 | .pmap _ _ _ _ foc=>match foc with
  | some x=>p x.2
  | none=>true
 | .part ..=>true
 | .fnl _ cs _=>BZ (zW p) cs
 | .gone=>true
 | .rnd _ sl=>BZ (fun x=>qP p x.2) sl
 | .rndX _=>true
section
variable {p:Id→Bool}{f e:Id→Id}(hp:∀i,p i=true→f (e i)=i)
include hp
theorem Pq {cs:List FC}(h:BZ (zW p) cs=true):(cs.map (FC.Az e)).map (FC.Az f)=cs:=by
 rw[List.map_map]
 rw[BD]at h
 refine Br fun c hc=>?_
 have:=h c hc
 cases c with
 | p i=>simp only[Function.comp,FC.Az];rw[hp _ this]
 | d x=>rfl
 | h=>rfl
theorem Yo {c:CV}(h:kF p c=true):(c.Az e).Az f=c:=by
 cases c<;>simp only[CV.Az,kF]at h ⊢
 ·rw[hp _ h]
 ·rw[List.map_map]
  congr 1
  rw[BD]at h
  exact Br fun i hi=>hp _ (h i hi)
 ·rw[hp _ h]
 ·rw[hp _ h]
 ·rw[hp _ h]
 ·rw[hp _ h]
 ·rw[hp _ h]
 ·rw[hp _ h]
 ·rw[hp _ h]
 ·rw[hp _ h]
 ·rw[Pq hp h]
 ·rw[hp _ h]
theorem It {cs:List CV}(h:BZ (kF p) cs=true):(cs.map (CV.Az e)).map (CV.Az f)=cs:=by
 rw[List.map_map]
 rw[BD]at h
 exact Br fun i hi=>Yo hp (h i hi)
theorem UM {c:V1}(h:wR p c=true):(c.Az e).Az f=c:=by
 cases c<;>simp only[V1.Az,wR]at h ⊢
 ·rw[Yo hp h]
 ·rw[It hp h]
theorem UN {c:AV}(h:qP p c=true):(c.Az e).Az f=c:=by
 cases c<;>simp only[AV.Az,qP]at h ⊢
 ·rw[UM hp h]
 ·rw[List.map_map]
  congr 1
  rw[BD]at h
  exact Br fun i hi=>UM hp (h i hi)
 ·rw[Pq hp h]
theorem Ky {c:AD}(h:MB p c=true):(c.Az e).Az f=c:=by
 cases c<;>simp only[AD.Az,MB]at h ⊢
 ·rw[It hp h]
 ·split at h
  ·rename_i h1
   rw[It hp h,It hp h1]
  ·cases h
 ·congr 1
  split at h
  ·show some (_,List.map (CV.Az f) (List.map (CV.Az e) _))=_
   rw[It hp h]
  ·rfl
 ·grind
 ·rw[Pq hp h]
 ·rw[List.map_map]
  congr 1
  rw[BD]at h
  refine Br fun i hi=>?_
  show (i.1,(i.2.Az e).Az f)=i
  rw[UN hp (h i hi)]
end
theorem Yp {σ σ':St}(r:Id→Id) (hext:∀j,r (.ext j)= .ext j) (hbig:∀n,σ'.next≤n→∃N,σ.next≤N∧r (.loc n)= .loc N)
  (hs:∀t,AQ σ'.slots t= .u∨AQ σ.slots t=(AQ σ'.slots t).Az r) (hh:∀i o,AJ σ'.heap i=some o→AJ σ.heap (r i)=some (o.Az r))
  (hinj:∀i j o o',AJ σ'.heap i=some o→AJ σ'.heap j=some o'→r i=r j→i=j) (hlow:∀n,σ'.next≤n→AJ σ'.heap (.loc n)=none):BM σ σ':=by
 rintro C a w ⟨g,R⟩
 let g':AO:=fun i=>g (r i)
 have hz:∀b o,zone g' (AJ σ'.heap) b o→zone g (AJ σ.heap) b o:=by
  rintro b o ⟨i,ob,hi,h1⟩
  exact⟨r i,_,hh i ob hi,CW.2 h1⟩
 have hzz:∀b o,Ar (zone g' (AJ σ'.heap)) C.X b o→Ar (zone g (AJ σ.heap)) C.X b o:=fun b o hx=>hx.imp (hz b o) id
 have ht:∀i n sz e,AJ σ'.heap i=some (.tok n sz e)→AJ σ.heap (r i)=some (.tok n sz e):=fun i n sz e hi=>hh i _ hi
 have hw:∀i,isLive (AJ σ'.heap i)=true→isLive (AJ σ.heap (r i))=true:=by
  intro i hi
  cases hc:AJ σ'.heap i with
  | none=>rw[hc]at hi;cases hi
  | some o=>
   rw[hh i o hc]
   rw[hc]at hi
   exact DF.trans hi
 have hdf:DQ w (Ar (zone g' (AJ σ'.heap)) C.X) g' C.M.cl (AQ σ'.slots DT) a.defers C.D:=by
  rcases hs DT with e | e
  ·rw[e];exact R.defers.un (by simp)
  ·have:=R.defers
   rw[e]at this
   exact DQ.pull (r:=r) hzz (fun _=>rfl) this
 refine⟨g',R.size,hdf,fun t=>?_,⟨fun i o hi=>BJ.pull (r:=r) (g':=g') hzz (fun _=>rfl) ht hw (R.heap.objs _ _ (hh i o hi)),fun i j oi oj b hi hj bi bj=>?_,fun i oi b o hi bi=>R.heap.apart _ _ b o (hh i oi hi) (Cu.2 bi)⟩,R.frame,fun j=>?_,
  fun j ob b o hj hz'=>R.within _ _ b o (hh j ob hj) (CW.2 hz'),R.xs,fun n hn=>⟨?_,hlow n hn⟩⟩
 ·rcases hs t with e | e
  ·rw[e];trivial
  ·have:=R.slots t
   rw[e]at this
   exact Aj.pull (r:=r) hzz (fun _=>rfl) ht hw this
 ·exact hinj i j oi oj hi hj (R.heap.sep _ _ _ _ b (hh i oi hi) (hh j oj hj) (Cu.2 bi) (Cu.2 bj))
 ·show CR (C.g0 (.ext j)) (g (r (.ext j)))
  rw[hext]
  exact R.ext j
 ·obtain⟨N,hN,e⟩:=hbig n hn
  show g (r (.loc n))=undef
  rw[e]
  exact (R.free N hN).1
def oE:List (Nat×Nat)→Nat→Option Nat
 | [],_=>none
 | (a,b)::l,k=>match Nat.beq a k with
  | true=>some b
  | false=>oE l k
def oG:List (Nat×Nat)→Nat→Option Nat
 | [],_=>none
 | (a,b)::l,k=>match Nat.beq b k with
  | true=>some a
  | false=>oG l k
def DM (l:List (Nat×Nat)):Id→Id
 | .ext j=>.ext j
 | .loc k=>match oE l k with
  | some m=>.loc m
  | none=>.loc k
def Oc (l:List (Nat×Nat)):Id→Id
 | .ext j=>.ext j
 | .loc k=>match oG l k with
  | some m=>.loc m
  | none=>.loc k
def Iu (l:List (Nat×Nat)) (n:Nat) (i:Id):Bool:=
 match Id.beq (Oc l (DM l i)) i with
 | true=>Kc n (DM l i)
 | false=>false
def Wz (l:List (Nat×Nat)):List (Nat×AV)→List (Nat×AV)
 | []=>[]
 | (t,x)::r=>(t,x.Az (DM l))::Wz l r
def Nu (l:List (Nat×Nat)):List (Id×AD)→List (Id×AD)
 | []=>[]
 | (i,x)::r=>(DM l i,x.Az (DM l))::Nu l r
def SJ (ks:List Nat) (is:List Id) (n:Nat) (l:List (Nat×Nat)) (σ:St) (K:St→Prop):Prop:=
 match KF σ.heap is with
 | none=>False
 | some hp=>BH (BZ (fun x:Nat×AV=>qP (Iu l n) x.2) (Gb σ.slots ks))<| BH (BZ (fun x:Id×AD=>match Iu l n x.1 with | true=>MB (Iu l n) x.2 | false=>false) hp)<|
   K ⟨Wz l (Gb σ.slots ks),Nu l hp,n⟩
theorem Yq {l:List (Nat×Nat)}{s:List (Nat×AV)}(t:Nat):AQ (Wz l s) t=(AQ s t).Az (DM l):=by
 induction s with
 | nil=>rfl
 | cons x s ih=>
  obtain⟨k,v⟩:=x
  show AQ ((k,v.Az (DM l))::Wz l s) t=_
  rw[Ba,Ba]
  grind
theorem SK {l:List (Nat×Nat)}{p:Id→Bool}{f:Id→Id}(hp:∀i,p i=true→f (DM l i)=i):∀{s:List (Id×AD)},(∀x∈s,p x.1=true)→∀{i:Id}{o:AD},AJ (Nu l s) i=some o→p (f i)=true∧DM l (f i)=i∧∃o',AJ s (f i)=some o'∧o=o'.Az (DM l)
 | [],_,i,o,h=>by simp[Nu,AJ]at h
 | (k,v)::s,hs,i,o,h=>by
  have hk:=hs (k,v) (by simp)
  rw[show Nu l ((k,v)::s)=(DM l k,v.Az (DM l))::Nu l s from rfl,CY]at h
  simp only[AK]at h
  by_cases e:i=DM l k
  ·rw[if_pos e]at h
   simp at h
   have hf:f i=k:=by rw[e];exact hp k hk
   rw[hf]
   exact⟨hk,e.symm,v,by rw[CY];simp[AK],h.symm⟩
  ·rw[if_neg e]at h
   obtain⟨h1,h2,o',h3,h4⟩:=SK hp (fun x hx=>hs x (List.mem_cons_of_mem _ hx)) h
   refine⟨h1,h2,o',?_,h4⟩
   rw[CY]
   simp only[AK]
   rw[if_neg]
   ·exact h3
   grind
theorem Yr {q:Id×AD→Bool}{l:List (Id×AD)}(h:BZ q l=true) {i:Id}{o:AD}(hi:AJ l i=some o):q (i,o)=true:=by
 induction l with
 | nil=>simp[AJ]at hi
 | cons x l ih=>
  obtain⟨k,v⟩:=x
  rw[BD]at h
  rw[CY]at hi
  simp only[AK]at hi
  split at hi
  ·simp_all
  ·exact ih (BD.2 fun x hx=>h x (by simp[hx])) hi
theorem Ht {ks:List Nat}{is:List Id}{n:Nat}{l:List (Nat×Nat)}{σ:St}{K:St→Prop}(h:SJ ks is n l σ K):∃σ',BM σ σ'∧K σ':=by
 unfold SJ at h
 split at h
 ·exact h.elim
 ·rename_i hp hhp
  obtain⟨h1,h⟩:=AA.1 h
  obtain⟨h2,h⟩:=AA.1 h
  let N:=max σ.next n
  let f:Id→Id:=fun i=>if Kc n i=true then Oc l i else .loc N
  have hpf:∀i,Iu l n i=true→f (DM l i)=i:=by
   intro i hi
   unfold Iu at hi
   split at hi
   ·rename_i hb
    show (if Kc n (DM l i)=true then _ else _)=i
    rw[if_pos hi]
    exact Id.beq_iff.1 hb
   ·cases hi
  have hk2:∀x∈hp,Iu l n x.1=true∧MB (Iu l n) x.2=true:=by
   intro x hx
   have:=BD.1 h2 x hx
   grind
  have hnew:∀i o,AJ (Nu l hp) i=some o→Iu l n (f i)=true∧DM l (f i)=i∧∃o',AJ hp (f i)=some o'∧o=o'.Az (DM l):=fun i o hi=>SK hpf (fun x hx=>(hk2 x hx).1) hi
  refine⟨_,Yp f (fun j=>by rfl) (fun m hm=>⟨N,Nat.le_max_left _ _,?_⟩) (fun t=>?_) (fun i o hi=>?_) (fun i j o o' hi hj e=>?_) (fun m hm=>?_),h⟩
  ·have hm:n≤m:=hm
   have:Kc n (.loc m)=false:=by
    cases hb:Kc n (.loc m)with
    | false=>rfl
    | true=>simp[Kc]at hb;omega
   grind
  ·rw[Yq]
   rcases OP (l:=σ.slots) (ks:=ks) t with e | e
   ·rw[e];exact .inl rfl
   ·right
    rw[←e]
    exact (UN hpf (Rp (p:=qP (Iu l n)) rfl h1 t)).symm
  ·obtain⟨p1,p2,o',p3,rfl⟩:=hnew i o hi
   have hq:=Yr (q:=fun x=>MB (Iu l n) x.2) (BD.2 fun x hx=>(hk2 x hx).2) p3
   rw[Ky hpf hq]
   exact (HH hhp _ _ p3).1
  ·grind
  ·cases hc:AJ (Nu l hp) (.loc m)with
   | none=>rfl
   | some o=>
    obtain⟨p1,p2,_⟩:=hnew _ o hc
    have hm:n≤m:=hm
    unfold Iu at p1
    split at p1
    ·rw[p2]at p1
     simp[Kc]at p1
     omega
    ·cases p1
end Go.AM
namespace Go.AM
open Go Go.RowKit
theorem W0 {M:Au}{ex:St→(Cm→St→Prop)→Prop}{σ:St}{K:Cm→St→Prop}(gs:List Gh) (l:List (Nat×Nat)) (ks:List Nat) (is:List Id) (nx:Nat) {T:Type}(S:T→St) (I:T→Prop) (m:T→Nat) (t0:T)
  (hI:I t0) (h0:gh gs σ fun σ=>SJ ks is nx l σ (·=S t0))
  (hr:∀t,I t→ex (S t) fun e σ2=>match e with
   | .normal=>∃n' σ3,n'<m t∧BM σ2 σ3∧∃t',I t'∧n'=m t'∧σ3=S t'
   | .exit id=>K (.exit id) σ2
   | .ret=>K .ret σ2):M.lock fun _=>Va ex σ K∨∃n,Kr M ex K n σ:=by
 refine (M.lock_iff _).2<| .inl ⟨fun n σ=>∃t,I t∧n=m t∧σ=S t,m t0,?_,?_⟩
 ·obtain⟨σ1,hw1,h1⟩:=Bx h0
  obtain⟨σ',hw,e⟩:=Ht h1
  exact⟨σ',BM.trans hw1 hw,t0,hI,rfl,e⟩
 grind
theorem UO {T:Type}{m:T→Nat}{I:T→Prop}{S:T→St}{σ2:St}{k:Nat}(t':T) (gs:List Gh) (l:List (Nat×Nat)) (ks:List Nat) (is:List Id) (nx:Nat) (hI:I t') (hm:m t'<k)
  (hk:gh gs σ2 fun σ=>SJ ks is nx l σ (·=S t')):∃n' σ3,n'<k∧BM σ2 σ3∧∃t',I t'∧n'=m t'∧σ3=S t':=by
 obtain⟨σ1,hw1,h1⟩:=Bx hk
 obtain⟨σ',hw,e⟩:=Ht h1
 exact⟨m t',σ',hm,BM.trans hw1 hw,t',hI,rfl,e⟩
section
variable {w:World}{Z Z' X:Ai}{g g':AO}{h h':Heap}
end
end Go.AM
namespace Go.AM
open Go Go.RowKit
theorem Ct.Q4 {P:Program}{I:Inv}{f:FuncId}{xs:List D}{res:V1}(hf:∃fn c,P.funcs[f]?=some fn∧fn.body=some c∧(fn.name== "runtime.NumGoroutine")=false)
  (h:∀(w:World) (Z:Ai) (vals:Array Value),I.rel w→vals.size=xs.length→(∀(j:Nat) x v,xs[j]?=some x→vals[j]?=some v→AZ w Z x v)→
   Calls P f vals w fun e w'=>∃v,e= .returned v∧DV (fun _=>False) w w'∧∀Z' g' h',Ag w' Z' g' h' res v):Ct P I f (xs.map V1.d) [] (.v res) [] []:=by
 refine Ct.mk' hf fun w X g vals hX hI RH hg hsz hargs=>?_
 have none:∀{i o},Ad [] i=some o→False:=by
  intro i o h
  cases i<;>simp[Ad]at h
 have none2:∀{i o},BP [] [] i=some o→False:=by
  intro i o h
  cases i<;>simp[BP]at h
 refine (h w (Ar (zone g (Ad [])) X) vals hI.1 (by simpa using hsz) (fun j x v hx hv=>hargs j (.d x) v (by simp[hx]) hv)).mono ?_
 rintro e w' ⟨v,rfl,A,hr⟩
 refine⟨v,g,rfl,⟨⟨fun i o hi=>(none2 hi).elim,fun i j oi oj b hi=>(none2 hi).elim,fun i oi b o hi=>(none2 hi).elim⟩,hr _ _ _,?_,fun j=>.refl _,fun i ob b o hi=>(none2 hi).elim,fun k _=>hg k⟩⟩
 exact⟨A.os,A.tape,A.output,A.size,fun b hb _=>A.block b hb id,fun b o u hu _=>A.cell hu id⟩
theorem Ct.iI {P:Program}{I:Inv}{f:FuncId}{xs:List D}{res:AV}(hf:∃fn c,P.funcs[f]?=some fn∧fn.body=some c∧(fn.name== "runtime.NumGoroutine")=false)
  (h:∀(w:World) (Z:Ai) (vals:Array Value),I.rel w→vals.size=xs.length→(∀(j:Nat) x v,xs[j]?=some x→vals[j]?=some v→AZ w Z x v)→
   Calls P f vals w fun e w'=>∃v,e= .returned v∧DV (fun _=>False) w w'∧∀Z' g' h',(∀b o,Z' b o→b<w.heap.size)→Aj w' Z' g' h' res v):Ct P I f (xs.map V1.d) [] res [] []:=by
 refine Ct.mk' hf fun w X g vals hX hI RH hg hsz hargs=>?_
 have none:∀{i o},Ad [] i=some o→False:=by
  intro i o h
  cases i<;>simp[Ad]at h
 have none2:∀{i o},BP [] [] i=some o→False:=by
  intro i o h
  cases i<;>simp[BP]at h
 refine (h w (Ar (zone g (Ad [])) X) vals hI.1 (by simpa using hsz) (fun j x v hx hv=>hargs j (.d x) v (by simp[hx]) hv)).mono ?_
 rintro e w' ⟨v,rfl,A,hr⟩
 refine⟨v,g,rfl,⟨⟨fun i o hi=>(none2 hi).elim,fun i j oi oj b hi=>(none2 hi).elim,fun i oi b o hi=>(none2 hi).elim⟩,hr _ _ _ ?_,?_,fun j=>.refl _,fun i ob b o hi=>(none2 hi).elim,fun k _=>hg k⟩⟩
 ·rintro b o (⟨i,ob,hi,_⟩ | hx)
  ·exact (none2 hi).elim
  ·exact hX b o hx
 ·exact⟨A.os,A.tape,A.output,A.size,fun b hb _=>A.block b hb id,fun b o u hu _=>A.cell hu id⟩
def Vj:List D→Option (List ByteArray)
 | []=>some []
 | .str s::r=>match Vj r with
  | some l=>some (s::l)
  | none=>none
 | _::_=>none
theorem Od:∀{rows:List D}{xs:List ByteArray},Vj rows=some xs→rows=xs.map D.str
 | [],xs,h=>by cases h;rfl
 | x::r,xs,h=>by
  cases x<;>simp only[Vj]at h<;>try (exact absurd h (by simp))
  split at h
  ·rename_i l hl
   cases h
   rw[Od hl];rfl
  ·cases h
theorem UP {w w':World}(h:w'.os=w.os) (h1:w'.tape=w.tape) (h2:w'.output=w.output) (h3:w.heap.size≤w'.heap.size) (h4:∀b,b<w.heap.size→w'.heap[b]?=w.heap[b]?):DV (fun _=>False) w w':=
 ⟨h,h1,h2,h3,fun b hb _=>h4 b hb⟩
theorem Gi {w w':World}(h:Below w.heap.size w w'):DV (fun _=>False) w w':=⟨h.os,h.tape,h.output,h.size,fun b hb _=>h.block b hb⟩
end Go.AM
