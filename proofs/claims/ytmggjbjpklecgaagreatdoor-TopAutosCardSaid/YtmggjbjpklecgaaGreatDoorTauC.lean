/- Part of a proof. No condition. (Part 3.) -/
import Derived.LoopNIn
import Derived.OrdersIn
import Derived.Laws.CopyRow
import Derived.DataReads
import Derived.Test.YtmggjbjpklecgaaGreatDoorProg
import Derived.KernelRfl
import Derived.Test.YtmggjbjpklecgaaGreatDoorTauB
set_option linter.unusedVariables false
set_option linter.unusedSimpArgs false
namespace Go.AM
open Go Go.RowKit
structure St where
 slots:List (Nat×AV)
 heap:List (Id×AQ)
 next:Nat
def Ag:List (Id×AQ)→Heap
 | [],_=>none
 | (k,v)::r,i=>match Id.beq k i with
  | true=>some v
  | false=>Ag r i
def DQ:List (Id×AQ)→Id→AQ→List (Id×AQ)
 | [],i,o=>[(i,o)]
 | (k,v)::r,i,o=>match Id.beq k i with
  | true=>(i,o)::r
  | false=>(k,v)::DQ r i o
def F0 (l:List (Id×AQ)):List (Id×AQ)→List (Id×AQ)
 | []=>l
 | (i,o)::r=>F0 (DQ l i o) r
def F1 (l:List (Nat×AV)) (d:Option Tmp) (v:AV):List (Nat×AV):=
 match d with
 | some d=>(d,v)::l
 | none=>l
theorem Ca (k:Nat) (v:AV) (l:List (Nat×AV)):Ay ((k,v)::l)=fun t=>if t=k then v else Ay l t:=by
 funext t
 show (match Nat.beq k t with | true=>v | false=>Ay l t)=_
 cases hb:Nat.beq k t with
 | true=>rw[if_pos (Nat.eq_of_beq_eq_true hb).symm]
 | false=>rw[if_neg (fun e=>Nat.ne_of_beq_eq_false hb e.symm)]
theorem DK (l:List (Nat×AV)) (d:Option Tmp) (v:AV):Ay (F1 l d v)=DY (Ay l) d v:=by
 cases d with
 | none=>rfl
 | some d=>exact Ca d v l
theorem Cb (k:Id) (v:AQ) (l:List (Id×AQ)):Ag ((k,v)::l)=AX (Ag l) k v:=by
 funext i
 show (match Id.beq k i with | true=>some v | false=>Ag l i)=if i=k then some v else Ag l i
 cases hb:Id.beq k i with
 | true=>rw[if_pos (Id.beq_iff.1 hb).symm]
 | false=>rw[if_neg (fun e=>Id.beq_false.1 hb e.symm)]
theorem Cr (l:List (Id×AQ)) (i:Id) (o:AQ):Ag (DQ l i o)=AX (Ag l) i o:=by
 induction l with
 | nil=>exact Cb i o []
 | cons x l ih=>
  obtain⟨k,v⟩:=x
  unfold DQ
  cases hb:Id.beq k i with
  | true=>
   have:=Id.beq_iff.1 hb
   subst this
   simp only[Cb]
   funext j
   simp only[AX]
   split<;>rfl
  | false=>
   have:=Id.beq_false.1 hb
   simp only[Cb,ih]
   funext j
   simp only[AX]
   by_cases h1:j=k
   ·subst h1;simp[this]
   ·simp[h1]
theorem D6 (wr:List (Id×AQ)):∀l:List (Id×AQ),Ag (F0 l wr)=BP (Ag l) wr:=by
 induction wr with
 | nil=>intro l;rfl
 | cons x wr ih=>
  intro l
  show Ag (F0 (DQ l x.1 x.2) wr)=BP (AX (Ag l) x.1 x.2) wr
  rw[ih,Cr]
def KB (nt:Nat) (d:Option Tmp) (K:Prop):Prop:=
 match d with
 | none=>K
 | some d=>Bq (Nat.blt d nt) K
def IZ (o:Oper) (K:Prop):Prop:=
 match o.op with
 | .store ..=>match o.dst with
  | some _=>False
  | none=>K
 | .mapUpdate ..=>match o.dst with
  | some _=>False
  | none=>K
 | .insert ..=>match o.dst with
  | some _=>False
  | none=>K
 | .defer _=>False
 | _=>K
def Nx (h:Heap):AV→Option (List D)
 | .v (.d (.list _ _ rows))=>some rows
 | .v (.c (.lst _ _ _ rows))=>some rows
 | .v (.c (.tl _ _ rows))=>some rows
 | .v (.c (.ow i))=>match h i with
  | some (.tree kd _ _ rows _)=>match kd with
   | .row=>some rows
   | .flat=>some rows
   | _=>none
  | _=>none
 | _=>none
def Ny:AV→Bool
 | .v (.c (.nils _ _))=>true
 | _=>false
def aZ:BinOp→Option Bool
 | .eql=>some true
 | .neq=>some false
 | _=>none
def QT (ti:Types) (o:Oper) (s:Af) (h:Heap):Option (Bool×List D):=
 match o.op with
 | .binOp op t x y _=>match aZ op with
  | some e=>match Ny (BQ ti s t y)with
   | true=>(match Nx h (BQ ti s t x)with
    | some rows=>some (e,rows)
    | none=>none)
   | false=>match Ny (BQ ti s t x)with
    | true=>(match Nx h (BQ ti s t y)with
     | some rows=>some (e,rows)
     | none=>none)
    | false=>none
  | none=>none
 | _=>none
def Nz (ti:Types) (o:Oper):Bool:=
 match o.op with
 | .binOp _ t _ _ _=>match ti t with
  | some i=>match i.desc with
   | .slice _=>true
   | _=>false
  | none=>false
 | _=>false
def B0 (C:Cx) (σ:St) (a:Act) (w:World):Prop:=Rel C (fun n=>σ.next≤n) (Ay σ.slots) (Ag σ.heap) a w
def CG (σ σ':St):Prop:=∀C a w,B0 C σ a w→B0 C σ' a w
def SI (o:Oper):Bool:=
 match o.op with
 | .call c=>match c.callee with
  | .value _=>true
  | _=>false
 | _=>false
def RM (h:Heap) (r:Id→Id) (m:List Id) (pre:List AQ):Prop:=∀(j:Nat) i o,m[j]?=some i→pre[j]?=some o→h i=some (o.BW r)
def V2 (r:Id→Id) (sl:List (Nat×AV)):List (Nat×AV):=sl.map fun x=>(x.1,x.2.BW r)
def QU (M:BS) (dst:Option Tmp) (fresh:Nat) (σ:St) (n:FuncId) (xs:List V1) (K:St→Prop):Prop:=
 ∃(m:List Id) (targs:List V1) (pre:List AQ) (Q:AV→List AQ→List AQ→Prop),EU M.P M.I n targs pre Q∧xs=targs.map (V1.BW (Bh m fresh))∧m.length=pre.length∧m.Nodup∧
  RM (Ag σ.heap) (Bh m fresh) m pre∧∀res post new,Q res post new→(CF pre post∧new.length≤31)∧
   K ⟨F1 σ.slots dst (res.BW (Bh m fresh)),F0 σ.heap (Ni m (Bh m fresh) post++DM fresh (Bh m fresh) 0 new),σ.next⟩
def S8 (M:BS) (dst:Option Tmp) (fresh:Nat) (σ:St) (i:Id) (r:Unit→RF) (sl:List (Nat×AV)) (xs:List V1) (K:St→Prop):Prop:=
 ∃(m:List Id) (targs:List V1) (pre:List AQ) (sl0:List (Nat×AV)) (Q:Jump→List AQ→List AQ→Prop),Dg M.P M.I (r ()) sl0 targs pre Q∧xs=targs.map (V1.BW (Bh (m++[i]) fresh))∧
  sl=V2 (Bh (m++[i]) fresh) sl0∧m.length=pre.length∧(m++[i]).Nodup∧RM (Ag σ.heap) (Bh (m++[i]) fresh) m pre∧∀j post new,Q j post new→(CF pre post∧new.length≤31)∧
   K ⟨F1 σ.slots dst (.v (.d (.bool j.isNone))),F0 σ.heap (Ni (m++[i]) (Bh (m++[i]) fresh) (post++[Dh j r sl0])++DM fresh (Bh (m++[i]) fresh) 0 new),σ.next⟩
def RN (M:BS) (ti:Types) (o:Oper) (fresh:Nat) (σ:St) (K:St→Prop):Prop:=
 match o.op with
 | .call c=>match c.callee with
  | .value f=>∃σ',CG ⟨σ.slots,σ.heap,fresh⟩ σ'∧σ'.next=fresh∧(match BQ ti (Ay σ'.slots) 0 f with
   | .v (.c (.fn n cap))=>withArgs (C8 ti (Ay σ'.slots) c.args.toList c.argTypes.toList) fun xs=>QU M o.dst fresh σ' n (xs++cap.map fun i=>V1.c (.ptr i 0)) K
   | .v (.c (.yl i))=>withArgs (C8 ti (Ay σ'.slots) c.args.toList c.argTypes.toList) fun xs=>(match Ag σ'.heap i with
    | some (.rnd r sl)=>S8 M o.dst fresh σ' i r sl xs K
    | _=>False)
   | _=>False)
  | _=>False
 | _=>False
def V3:CV→Bool
 | .ow _=>true
 | .sl _ _=>true
 | _=>false
def VA {α:Type}(p:α→Bool):List α→Bool
 | []=>false
 | x::r=>match p x with
  | true=>true
  | false=>VA p r
def PD:AV→Bool
 | .v (.c c)=>V3 c
 | .v (.agg cs)=>VA V3 cs
 | _=>false
def V4:D→Bool
 | .list _ _ _=>true
 | _=>false
def V5:CV→Bool
 | .d x=>V4 x
 | .lst _ _ _ _=>true
 | .tl _ _ _=>true
 | _=>false
def Xr:AV→Bool
 | .v (.d x)=>VA V4 x.cells
 | .v (.c c)=>V5 c
 | .v (.agg cs)=>VA V5 cs
 | _=>false
def S9:AV→Bool
 | .v (.c (.ow _))=>true
 | _=>false
def ZO (ti:Types) (o:Oper) (s:Af) (h:Heap):Option Bool:=
 match o.op with
 | .slice t x _ _ _=>(match S9 (BQ ti s t x)with
  | true=>some true
  | false=>none)
 | .convert t _ x=>(match S9 (BQ ti s t x)with
  | true=>some true
  | false=>none)
 | .store t x y=>(match QN (BQ ti s 0 x) h with
  | true=>(match PD (BQ ti s t y)with
   | true=>some true
   | false=>none)
  | false=>(match Ur (BQ ti s 0 x)with
   | true=>(match Xr (BQ ti s t y)with
    | true=>some false
    | false=>none)
   | false=>(match S7 (BQ ti s 0 x) h with
    | true=>(match PD (BQ ti s t y)with
     | true=>some true
     | false=>none)
    | false=>none)))
 | .indexAddr t x _=>(match S9 (BQ ti s t x)with
  | true=>some false
  | false=>none)
 | .mapUpdate _ _ _ z=>(match PD (BQ ti s 0 z)with
  | true=>some true
  | false=>none)
 | .call c=>(match c.callee with
  | .builtin .delete=>some true
  | .builtin .append=>(match c.args.toList,c.argTypes.toList with
   | [x,y],[t,t']=>(match PD (BQ ti s t x)with
    | true=>some false
    | false=>(match PD (BQ ti s t' y)with
     | true=>some false
     | false=>none))
   | _,_=>none)
  | _=>none)
 | _=>none
def VB (M:BS) (ti:Types) (o:Oper) (fresh:Nat) (σ:St) (K:St→Prop):Prop:=
 ∃σ',CG ⟨σ.slots,σ.heap,fresh⟩ σ'∧σ'.next=fresh∧Fk M ti o fresh (Ay σ'.slots) (Ag σ'.heap) fun out=>K ⟨F1 σ'.slots o.dst out.val,F0 σ'.heap out.wr,σ'.next⟩
def Ws (M:BS) (ti:Types) (o:Oper) (fresh:Nat) (σ:St) (K:St→Prop):Prop:=
 Fk M ti o fresh (Ay σ.slots) (Ag σ.heap) fun out=>K ⟨F1 σ.slots o.dst out.val,F0 σ.heap out.wr,σ.next⟩
def Wt (M:BS) (ti:Types) (nt:Nat) (o:Oper) (fresh:Nat) (σ:St) (K:St→Prop):Prop:=
 IZ o<| KB nt o.dst<| match QT ti o (Ay σ.slots) (Ag σ.heap)with
  | some (e,rows)=>Bq (Nz ti o)<| (rows≠[]→K ⟨F1 σ.slots o.dst (.v (.d (.bool (HK e)))),σ.heap,σ.next⟩)∧
    (rows=[]→K ⟨F1 σ.slots o.dst (.v (.d (.bool e))),σ.heap,σ.next⟩∧K ⟨F1 σ.slots o.dst (.v (.d (.bool (HK e)))),σ.heap,σ.next⟩)
  | none=>match SI o with
   | true=>M.lock fun _=>(Fk M ti o fresh (Ay σ.slots) (Ag σ.heap) fun out=>K ⟨F1 σ.slots o.dst out.val,F0 σ.heap out.wr,σ.next⟩)∨RN M ti o fresh σ K
   | false=>match ZO ti o (Ay σ.slots) (Ag σ.heap)with
    | none=>Fk M ti o fresh (Ay σ.slots) (Ag σ.heap) fun out=>K ⟨F1 σ.slots o.dst out.val,F0 σ.heap out.wr,σ.next⟩
    | some b=>match b with
     | true=>M.lock fun _=>VB M ti o fresh σ K
     | false=>M.lock fun _=>Ws M ti o fresh σ K∨VB M ti o fresh σ K
def guarded (ops:Array Oper) (o:Oper) (σ:St) (K1 K0:St→Prop):Prop:=
 match o.guard with
 | none=>K1 σ
 | some (j,want)=>match (ops[j]?).bind (·.dst)with
  | none=>False
  | some d=>match Ay σ.slots d with
   | .v (.d (.bool c))=>match want with
    | true=>match c with
     | true=>K1 σ
     | false=>K0 σ
    | false=>match c with
     | true=>K0 σ
     | false=>K1 σ
   | .t []=>K0 σ
   | _=>False
def EY (M:BS) (ti:Types) (nt:Nat) (ops:Array Oper) (base:Nat):List Oper→Nat→St→(St→Prop)→Prop
 | [],i,σ,K=>K ⟨σ.slots,σ.heap,base+32*i⟩
 | o::r,i,σ,K=>guarded ops o σ
   (fun σ1=>Wt M ti nt o (base+32*i) σ1 fun σ2=>EY M ti nt ops base r (i+1) σ2 K)
   (fun σ1=>KB nt o.dst (EY M ti nt ops base r (i+1) ⟨F1 σ1.slots o.dst (.t []),σ1.heap,σ1.next⟩ K))
inductive B1 where
 | normal
 | exit (id:Nat)
 | ret
abbrev SJ:=Array Oper→St→(St→Prop)→Prop
def KC (ex:St→(B1→St→Prop)→Prop) (σ:St) (K:B1→St→Prop):Prop:=
 ∃(I:Nat→St→Prop) (m:Nat),(∃σ0,CG σ σ0∧I m σ0)∧∀n σ1,I n σ1→ex σ1 fun e σ2=>match e with
  | .normal=>∃n' σ3,n'<n∧CG σ2 σ3∧I n' σ3
  | .exit id=>K (.exit id) σ2
  | .ret=>K .ret σ2
def EZ (M:BS) (ex:St→(B1→St→Prop)→Prop) (K:B1→St→Prop):Nat→St→Prop
 | 0,σ=>M.lock fun _=>KC ex σ K
 | n+1,σ=>ex σ fun e σ2=>match e with
  | .normal=>EZ M ex K n σ2
  | .exit id=>K (.exit id) σ2
  | .ret=>K .ret σ2
def QV (M:BS) (ti:Types) (nt:Nat) (g:Operand) (ps:Array Tmp) (assign body:Code) (σ:St) (K:B1→St→Prop):Prop:=
 ∃σ',CG σ σ'∧(match BQ ti (Ay σ'.slots) 0 g with
  | .v (.c (.fn n cap))=>∃sl:List (Nat×AV),(∀t,Ay sl t= .u∨Ay sl t=Ay σ'.slots t)∧
    QU M none (σ'.next+32) ⟨σ'.slots,DQ σ'.heap (.loc σ'.next) (.rnd (fun _=>⟨ps,assign,body,nt⟩) sl),σ'.next+64⟩ n (V1.c (.yl (.loc σ'.next))::cap.map fun i=>V1.c (.ptr i 0)) fun σ2=>
     match Ag σ2.heap (.loc σ'.next)with
     | some (.rnd _ _)=>K .normal ⟨σ2.slots,DQ σ2.heap (.loc σ'.next) .gone,σ2.next⟩
     | some (.rndX j)=>(match j with
      | none=>K .ret ⟨σ2.slots,DQ σ2.heap (.loc σ'.next) .gone,σ2.next⟩
      | some id=>K (.exit id) ⟨σ2.slots,DQ σ2.heap (.loc σ'.next) .gone,σ2.next⟩)
     | _=>False
  | _=>False)
def VC (ea eb:St→(B1→St→Prop)→Prop) (σ:St) (K:B1→St→Prop):Prop:=
 (ea σ fun e σ'=>match e with
  | .normal=>eb σ' K
  | .exit id=>K (.exit id) σ'
  | .ret=>K .ret σ')∨
 ∃I:St→Prop,(ea σ fun e σ'=>match e with
  | .normal=>∃σ'',CG σ' σ''∧I σ''
  | .exit id=>K (.exit id) σ'
  | .ret=>K .ret σ')∧∀σ'',I σ''→eb σ'' K
def exec (M:BS) (ti:Types) (nt:Nat) (dr:SJ):Code→St→(B1→St→Prop)→Prop
 | .skip,σ,K=>K .normal σ
 | .region _ ops draw,σ,K=>match draw with
  | false=>EY M ti nt ops σ.next ops.toList 0 σ fun σ'=>K .normal σ'
  | true=>dr ops σ fun σ'=>K .normal σ'
 | .seq a b,σ,K=>M.lock fun _=>VC (fun σ K=>exec M ti nt dr a σ K) (fun σ K=>exec M ti nt dr b σ K) σ K
 | .cond c a b,σ,K=>Q0 (BQ ti (Ay σ.slots) 0 c) fun q=>match q with
  | true=>exec M ti nt dr a σ K
  | false=>exec M ti nt dr b σ K
 | .block id c,σ,K=>exec M ti nt dr c σ fun e σ'=>match e with
  | .normal=>K .normal σ'
  | .exit id'=>match Nat.beq id' id with
   | true=>K .normal σ'
   | false=>K (.exit id') σ'
  | .ret=>K .ret σ'
 | .loop c,σ,K=>M.lock fun _=>KC (fun σ K=>exec M ti nt dr c σ K) σ K∨∃n,EZ M (fun σ K=>exec M ti nt dr c σ K) K n σ
 | .exit id,σ,K=>K (.exit id) σ
 | .ret,σ,K=>K .ret σ
 | .rangeFunc g ps assign body,σ,K=>M.lock fun _=>QV M ti nt g ps assign body σ K
 | _,_,_=>False
def P0 (C:Cx) (K:B1→St→Prop):Exit→Act→World→Prop
 | .normal,a,w=>∃C',Df C C'∧∃σ,K .normal σ∧B0 C' σ a w
 | .exit id,a,w=>∃C',Df C C'∧∃σ,K (.exit id) σ∧B0 C' σ a w
 | .ret,a,w=>∃C',Df C C'∧∃σ,K .ret σ∧B0 C' σ a w
 | _,_,_=>False
theorem P0.mono {C C':Cx}{K:B1→St→Prop}(L:Df C C'):∀{e:Exit}{a:Act}{w:World},P0 C' K e a w→P0 C K e a w
 | .normal,_,_,⟨D,L',h⟩=>⟨D,L.trans L',h⟩
 | .exit _,_,_,⟨D,L',h⟩=>⟨D,L.trans L',h⟩
 | .ret,_,_,⟨D,L',h⟩=>⟨D,L.trans L',h⟩
theorem Rel.BH {C:Cx}{F F':Nat→Prop}{s:Af}{h:Heap}{a:Act}{w:World}(R:Rel C F s h a w) (hF:∀n,F' n→F n):Rel C F' s h a w:=
 let ⟨g,r⟩:=R
 ⟨g,r.BH hF⟩
section
variable {C:Cx}{ti:Types}{dr:SJ}
theorem HF {nt:Nat}{d:Option Tmp}{K:Prop}:KB nt d K↔(∀x,d=some x→x<nt)∧K:=by
 unfold KB
 split
 ·simp
 ·simp[AR]
theorem KD {o:Oper}{K:Prop}(h:IZ o K):((∀t x y,o.op= .store t x y→o.dst=none)∧∀t x y z,(o.op= .mapUpdate t x y z∨o.op= .insert t x y z)→o.dst=none)∧(∀c,o.op≠ .defer c)∧K:=by
 unfold IZ at h
 split at h
 ·rename_i ho
  split at h
  ·exact h.elim
  ·rename_i hd
   refine⟨⟨fun _ _ _ _=>hd,fun _ _ _ _ _=>hd⟩,fun c e=>?_,h⟩
   rw[ho]at e;cases e
 ·rename_i ho
  split at h
  ·exact h.elim
  ·rename_i hd
   refine⟨⟨fun _ _ _ _=>hd,fun _ _ _ _ _=>hd⟩,fun c e=>?_,h⟩
   rw[ho]at e;cases e
 ·rename_i ho
  split at h
  ·exact h.elim
  ·rename_i hd
   refine⟨⟨fun _ _ _ _=>hd,fun _ _ _ _ _=>hd⟩,fun c e=>?_,h⟩
   rw[ho]at e;cases e
 ·exact h.elim
 ·rename_i hne hne2 hne3 hnd
  exact⟨⟨fun t x y e=>absurd e (hne t x y),fun t x y z e=>e.elim (fun e=>absurd e (hne2 t x y z)) (fun e=>absurd e (hne3 t x y z))⟩,hnd,h⟩
theorem Wu {F:Nat→Prop}{σ:St}{a:Act}{w:World}{ops:Array Oper}{j d:Nat}{c:Bool}(R:Rel C F (Ay σ.slots) (Ag σ.heap) a w)
  (hd:(ops[j]?).bind (·.dst)=some d) (hc:Ay σ.slots d= .v (.d (.bool c))):yielded ops a.tmps j=some c:=by
 obtain⟨g,R⟩:=R
 have:=R.slots d
 rw[hc]at this
 have hv:=Nk this
 unfold yielded
 rw[hd]
 have:a.tmps[d]?=some (.bool c):=by
  rw[Array.getD_eq_getD_getElem?]at hv
  cases h:a.tmps[d]? with
  | none=>rw[h]at hv;simp[undef]at hv
  | some v=>rw[h]at hv;simpa using hv
 simp[this]
theorem Ia {ops:Array Oper}{a:Act}{j d:Nat}(hd:(ops[j]?).bind (·.dst)=some d) (h:∃vs:Array Value,a.tmps.getD d undef= .tuple vs):yielded ops a.tmps j=none:=by
 obtain⟨vs,hv⟩:=h
 unfold yielded
 rw[hd]
 rw[Array.getD_eq_getD_getElem?]at hv
 cases h:a.tmps[d]? with
 | none=>simp[h]
 | some v=>
  rw[h]at hv
  have hv:v= .tuple vs:=by simpa using hv
  subst hv
  simp[h]
theorem PE {F:Nat→Prop}{σ:St}{a:Act}{w:World}{ops:Array Oper}{j d:Nat}(R:Rel C F (Ay σ.slots) (Ag σ.heap) a w)
  (hd:(ops[j]?).bind (·.dst)=some d) (hc:Ay σ.slots d= .t []):yielded ops a.tmps j=none:=by
 obtain⟨g,R⟩:=R
 have:=R.slots d
 rw[hc]at this
 obtain⟨vs,hv,_⟩:=this
 exact Ia hd ⟨vs,hv⟩
theorem Mq {F:Nat→Prop}{σ:St}{a:Act}{w:World}{ops:Array Oper}{o:Oper}{K1 K0:St→Prop}(R:Rel C F (Ay σ.slots) (Ag σ.heap) a w)
  (hk:guarded ops o σ K1 K0):∃σ',σ'.heap=σ.heap∧Rel C F (Ay σ'.slots) (Ag σ'.heap) a w∧
   ((Region.wanted o (yielded ops a.tmps)=true∧K1 σ')∨(Region.wanted o (yielded ops a.tmps)=false∧K0 σ')):=by
 unfold guarded at hk
 split at hk
 ·rename_i hg
  exact⟨σ,rfl,R,.inl ⟨by simp[Region.wanted,hg],hk⟩⟩
 ·rename_i j want hg
  split at hk
  ·exact hk.elim
  ·rename_i d hd
   split at hk
   ·rename_i c hc
    have hy:=Wu R hd hc
    cases want<;>cases c
    ·exact⟨σ,rfl,R,.inl ⟨by simp[Region.wanted,hg,hy],hk⟩⟩
    ·exact⟨σ,rfl,R,.inr ⟨by simp[Region.wanted,hg,hy],hk⟩⟩
    ·exact⟨σ,rfl,R,.inr ⟨by simp[Region.wanted,hg,hy],hk⟩⟩
    ·exact⟨σ,rfl,R,.inl ⟨by simp[Region.wanted,hg,hy],hk⟩⟩
   ·rename_i hc
    have hy:=PE R hd hc
    exact⟨σ,rfl,R,.inr ⟨by simp[Region.wanted,hg,hy],hk⟩⟩
   ·exact hk.elim
theorem LQ {w:World}{X Z:Av}{g:Ac}{h:Heap}(RH:Db w X g h) {x:AV}{rows:List D}{v:Value}(hx:Nx h x=some rows) (hr:BG w Z g h x v):∃A n cap,v= .slice A n cap∧(rows≠[]→A.isNone=false):=by
 have main:∀{ag:Bool} {sz:Nat},Aj w Z (.list ag sz rows) v→∃A n cap,v= .slice A n cap∧(rows≠[]→A.isNone=false):=by
  intro ag sz hd
  obtain⟨A,cap,hv,_,_,_,b,o,hA,_⟩:=Kc hd
  exact⟨A,_,cap,hv,fun hne=>by rw[hA hne];rfl⟩
 unfold Nx at hx
 split at hx
 ·cases hx;exact main hr
 ·cases hx;exact main hr.1
 ·cases hx;exact main hr.1
 ·rename_i i
  split at hx
  ·rename_i kd ag sz rows' foc hi
   split at hx
   ·cases hx
    obtain⟨ht,h0,hf,xs,ho,_⟩:=RH.objs i _ hi
    obtain⟨A,cap,hv,_,_,hA⟩:=ho.row
    refine⟨A,_,cap,by rw[hr.2.2 (by rw[hi];rfl),hv],fun hne=>?_⟩
    obtain⟨b,rfl⟩:=hA (List.length_pos_iff.2 hne)
    rfl
   ·cases hx
    obtain⟨ht,h0,hf,xs,ho,_⟩:=RH.objs i _ hi
    obtain⟨A,cap,hv,_,_,hA⟩:=ho.Y0.row
    refine⟨A,_,cap,by rw[hr.2.2 (by rw[hi];rfl),hv],fun hne=>?_⟩
    obtain⟨b,rfl⟩:=hA (List.length_pos_iff.2 hne)
    rfl
   ·cases hx
  ·cases hx
 ·cases hx
theorem LR {w:World}{Z:Av}{g:Ac}{h:Heap}{x:AV}{v:Value}(hx:Ny x=true) (hr:BG w Z g h x v):v= .slice none 0 0:=by
 unfold Ny at hx
 split at hx
 ·exact hr
 ·cases hx
theorem SK {P:Program}{t e:TypeId}(h:P.underlying t=some (.slice e)) (A:Option Addr) (n cap:Nat) (w:World) (d:Nat):
  (Op.equalIn (d+1) t (.slice A n cap) (.slice none 0 0)).run P w= .ok A.isNone w∧(Op.equalIn (d+1) t (.slice none 0 0) (.slice A n cap)).run P w= .ok A.isNone w:=by
 constructor<;>cases A<;>simp[Op.equalIn,run_underlying h w]
theorem PF {P:Program}{t e:TypeId}(h:P.underlying t=some (.slice e)) (A:Option Addr) (n cap:Nat) (w:World):
  (Op.equal t (.slice A n cap) (.slice none 0 0)).run P w= .ok A.isNone w∧(Op.equal t (.slice none 0 0) (.slice A n cap)).run P w= .ok A.isNone w:=
 SK h A n cap w 9999
theorem SL {C:Cx}{ti:Types}(hti:BV C.P ti) {o:Oper}{F:Nat→Prop}{s:Af}{h:Heap}{g:Ac}{a:Act}{w:World}(R:Ap C F s h g a w) {e:Bool}{rows:List D}(hn:QT ti o s h=some (e,rows)) (hs:Nz ti o=true):
  ∃c:Bool,(execOp a.eval o).run C.P w= .ok (.value (.bool (if c then e else !e))) w∧(rows≠[]→c=false):=by
 unfold QT at hn
 split at hn
 ·rename_i op t x y t' ho
  split at hn
  ·rename_i e' he
   unfold Nz at hs
   rw[ho]at hs
   simp only at hs
   split at hs
   ·rename_i i hi
    split at hs
    ·rename_i el hd
     have hu:=(hti t i hi).1
     rw[hd]at hu
     have ex:=Ai ti t x R (s:=s) (fun _ _=>rfl)
     have ey:=Ai ti t y R (s:=s) (fun _ _=>rfl)
     have fin:∀(A:Option Addr) (r:Sem Bool),(Op.equal t (a.eval x) (a.eval y)).run C.P w= .ok A.isNone w→(∃n cap,a.eval x= .slice A n cap∨a.eval y= .slice A n cap)→(∃n cap A',a.eval x= .slice A' n cap)→(∃n cap A',a.eval y= .slice A' n cap)→(rows≠[]→A.isNone=false)→e'=e→
       ∃c:Bool,(execOp a.eval o).run C.P w= .ok (.value (.bool (if c then e else !e))) w∧(rows≠[]→c=false):=by
      rintro A r hrun _ ⟨n,cap,A1,hx⟩ ⟨m,cap',A2,hy⟩ hne rfl
      refine⟨A.isNone,?_,hne⟩
      rw[hx,hy]at hrun
      unfold aZ at he
      split at he<;>cases he<;>cases hA:A.isNone<;>simp[execOp,ho,hx,hy,eqGuard,binOp,hrun,hA]
     split at hn
     ·rename_i hny
      split at hn
      ·rename_i rows' hrx
       obtain⟨A,n,cap,hv,hA⟩:=LQ R.heap hrx ex
       have hyv:=LR hny ey
       cases hn
       exact fin A (pure true) (by rw[hv,hyv];exact (PF hu A n cap w).1) ⟨n,cap,.inl hv⟩ ⟨n,cap,A,hv⟩ ⟨0,0,none,hyv⟩ hA rfl
      ·cases hn
     ·split at hn
      ·rename_i hnx
       split at hn
       ·rename_i rows' hry
        obtain⟨A,n,cap,hv,hA⟩:=LQ R.heap hry ey
        have hxv:=LR hnx ex
        cases hn
        exact fin A (pure true) (by rw[hv,hxv];exact (PF hu A n cap w).2) ⟨n,cap,.inr hv⟩ ⟨0,0,none,hxv⟩ ⟨n,cap,A,hv⟩ hA rfl
       ·cases hn
      ·cases hn
    ·cases hs
   ·cases hs
  ·cases hn
 ·cases hn
theorem Ib {F:Nat→Prop}{σ:St}{g:Ac}{a:Act}{w:World}{fresh:Nat}{dst:Option Tmp}{n:FuncId}{xs:List V1}{K:St→Prop}{Q:Exit→Act→World→Prop}{vals:Array Value}
  (R:Ap C F (Ay σ.slots) (Ag σ.heap) g a w) (hk:QU C.M dst fresh σ n xs K) (hF:∀k,k<32→F (fresh+k)) (hd:∀d,dst=some d→d<C.nt) (hsz:vals.size=xs.length)
  (hargs:∀(j:Nat) x v,xs[j]?=some x→vals[j]?=some v→BE w (BN (zone g (Ag σ.heap)) C.X) g (Ag σ.heap) x v):
  (∃fn c,C.P.funcs[n]?=some fn∧fn.body=some c∧(fn.name== "runtime.NumGoroutine")=false)∧
  Calls C.P n vals w fun
   | .returned v,w''=>∃σ2,K σ2∧σ2.next=σ.next∧∃g2,(∀i q,g i= .map (some q)→g2 i=g i)∧Ap C (fun k=>F k∧¬(fresh≤k∧k<fresh+32)) (Ay σ2.slots) (Ag σ2.heap) g2 (a.put dst v) w''
   | .panicked chain,w''=>Q (.panic chain) a w''
   | .outgrown,_=>LetsOut Q:=by
 obtain⟨m,targs,pre,Qp,ht,rfl,hlen,hnd,hpre,hK⟩:=hk
 refine⟨ht.1,?_⟩
 refine Calls.mono (HC (Qp:=Qp) (Run:=fun p=>Calls C.P n vals w p) (vals:=vals) (dst:=dst) (Q:=Q) R (fun hpq hp=>hp.mono hpq)
  (fun X g1 _ k1 k2 k3 k4 k6=>ht.2 w X g1 vals k1 k2 k3 k4 (by rw[hsz];simp) k6) hlen hnd hpre (fun r p q h=>(hK r p q h).1) hF hd hargs) ?_
 intro e w' he
 cases e with
 | returned v=>
  obtain⟨res,post,new,hq,he⟩:=he
  refine⟨_,(hK res post new hq).2,rfl,?_⟩
  rw[DK,D6]
  exact he
 | panicked ch=>exact he
 | outgrown=>exact he
theorem SM {h:Heap}{r:Id→Id}{m:List Id}{pre:List AQ}{i:Id}{o:AQ}(hp:RM h r m pre) (hl:m.length=pre.length) (hi:h i=some (o.BW r)):RM h r (m++[i]) (pre++[o]):=by
 intro j i' o' hm ho
 by_cases hj:j<m.length
 ·rw[List.getElem?_append_left hj]at hm
  rw[List.getElem?_append_left (by omega)]at ho
  exact hp j i' o' hm ho
 ·rw[List.getElem?_append_right (by omega)]at hm
  rw[List.getElem?_append_right (by omega),←hl]at ho
  have:j - m.length=0:=by
   rcases Nat.eq_zero_or_pos (j - m.length)with h | h
   ·exact h
   ·rw[List.getElem?_eq_none (by simp;omega)]at hm;cases hm
  rw[this]at hm ho
  simp at hm ho
  subst hm;subst ho
  exact hi
theorem Ic {a b:AQ}:∀{pre post:List AQ},CF pre post→sameKind a b→CF (pre++[a]) (post++[b])
 | [],[],_,h=>⟨h,trivial⟩
 | _::_,_::_,h,k=>⟨h.1,Ic h.2 k⟩
 | [],_::_,h,_=>h.elim
 | _::_,[],h,_=>h.elim
theorem N0 {F:Nat→Prop}{σ:St}{g:Ac}{a:Act}{w:World}{fresh:Nat}{dst:Option Tmp}{i:Id}{r:Unit→RF}{sl:List (Nat×AV)}{xs:List V1}{K:St→Prop}{Q:Exit→Act→World→Prop}{vals:Array Value}
  (R:Ap C F (Ay σ.slots) (Ag σ.heap) g a w) (hi:Ag σ.heap i=some (.rnd r sl)) (hk:S8 C.M dst fresh σ i r sl xs K) (hF:∀k,k<32→F (fresh+k)) (hd:∀d,dst=some d→d<C.nt) (hsz:vals.size=xs.length)
  (hargs:∀(j:Nat) x v,xs[j]?=some x→vals[j]?=some v→BE w (BN (zone g (Ag σ.heap)) C.X) g (Ag σ.heap) x v):
  ∃l L,g i= .map (some l)∧w.heap[l]?=some (.loop L)∧vals.size=L.params.size∧
  RoundIn Fence.wide 0 C.P l L.fn (Dw L.params vals L.tmps) L.assign L.body w fun
   | .returned v,w''=>∃σ2,K σ2∧σ2.next=σ.next∧∃g2,(∀i q,g i= .map (some q)→g2 i=g i)∧Ap C (fun k=>F k∧¬(fresh≤k∧k<fresh+32)) (Ay σ2.slots) (Ag σ2.heap) g2 (a.put dst v) w''
   | .panicked chain,w''=>Q (.panic chain) a w''
   | .outgrown,_=>LetsOut Q:=by
 obtain⟨m,targs,pre,sl0,Qp,ht,rfl,rfl,hlen,hnd,hpre,hK⟩:=hk
 have hsz':vals.size=targs.length:=by rw[hsz];simp
 obtain⟨l,L,hv,hl,_,_,l3,l4,l5,l6,_⟩:=R.heap.objs i _ hi
 refine⟨l,L,hv,hl,by rw[hsz',ht.1,l3],?_⟩
 refine RoundIn.mono (HC (Qp:=fun res post new=>∃j post0,Qp j post0 new∧res= .v (.d (.bool j.isNone))∧post=post0++[Dh j r sl0]) (targs:=targs) (m:=m++[i]) (pre:=pre++[.rnd r sl0])
  (Run:=fun p=>RoundIn Fence.wide 0 C.P l L.fn (Dw L.params vals L.tmps) L.assign L.body w p) (vals:=vals) (dst:=dst) (Q:=Q) R (fun hpq hp=>hp.mono hpq)
  (fun X g1 kg k1 k2 k3 k4 k6=>by
   obtain⟨l',L',e1,e2,_,hr⟩:=QM ht (fun j p q h=>(hK j p q h).1) k1 k2 k3 k4 hsz' k6
   have:g1 (.ext pre.length)= .map (some l):=by
    rw[kg,←hlen]
    show g (Bh (m++[i]) fresh (.ext m.length))=_
    simp[Bh,hv]
   rw[e1]at this
   cases this
   rw[hl]at e2
   cases e2
   exact hr) (by simp[hlen]) hnd (SM hpre hlen (by rw[hi];rfl)) (fun res post new h=>by
    obtain⟨j,post0,hq,rfl,rfl⟩:=h
    obtain⟨q1,q2⟩:=(hK j post0 new hq).1
    exact⟨Ic q1 (by cases j<;>trivial),q2⟩) hF hd hargs) ?_
 intro e w' he
 cases e with
 | returned v=>
  obtain⟨res,post,new,⟨j,post0,hq,rfl,rfl⟩,he⟩:=he
  refine⟨_,(hK j post0 new hq).2,rfl,?_⟩
  rw[DK,D6]
  exact he
 | panicked ch=>exact he
 | outgrown=>exact he
theorem Cc (hti:BV C.P ti) (h1:Bo ti) {ops:Array Oper}{base:Nat}{K:St→Prop}{Q:Exit→Act→World→Prop}
  (hQ:∀σ a w,K σ→B0 C σ a w→Q .normal a w):∀(l:List Oper) (i:Nat) (σ:St) (a:Act) (w:World),ops.toList.drop i=l→
   EY C.M ti C.nt ops base l i σ K→Rel C (fun n=>base+32*i≤n) (Ay σ.slots) (Ag σ.heap) a w→wpOpsIn (BZ C.ro) 0 C.P ops Q (List.range' i l.length) a w
 | [],i,σ,a,w,_,hk,R=>hQ _ a w hk R
 | o::r,i,σ,a,w,hl,hk,R=>by
  have hi:ops[i]?=some o:=by
   have:=congrArg (fun l=>l[0]?) hl
   simpa using this
  have hr:ops.toList.drop (i+1)=r:=by
   have:=congrArg List.tail hl
   simpa using this
  simp only[List.length_cons,List.range'_succ]
  rw[wpOpsIn_cons]
  unfold wpOpIn
  rw[hi]
  simp only[]
  obtain⟨σ',hh,R',⟨hw,hk⟩ | ⟨hw,hk⟩⟩:=Mq R hk
  ·rw[if_pos hw]
   obtain⟨hst,hnd,hk⟩:=KD hk
   obtain⟨hd,hk⟩:=HF.1 hk
   split at hk
   ·rename_i e rows hnc
    obtain⟨hs,hk1,hk2⟩:=AR.1 hk
    obtain⟨g,R2⟩:=R'
    obtain⟨c,hrun,hc⟩:=SL hti R2 hnc hs
    refine E5 hnd ?_
    unfold Oper.wp
    rw[hrun]
    have fin:∀b:Bool,EY C.M ti C.nt ops base r (i+1) ⟨F1 σ'.slots o.dst (.v (.d (.bool b))),σ'.heap,σ'.next⟩ K→wpOpsIn (BZ C.ro) 0 C.P ops Q (List.range' (i+1) r.length) (a.put o.dst (.bool b)) w:=by
     intro b hk
     refine Cc hti h1 hQ r (i+1) _ _ w hr hk ?_
     rw[DK]
     exact⟨g,(R2.put hd (v:=.v (.d (.bool b))) (.bool b)).BH (fun n hn=>by omega)⟩
    by_cases hne:rows=[]
    ·obtain⟨k1,k2⟩:=hk2 hne
     cases c with
     | true=>exact fin e k1
     | false=>have:=fin (HK e) k2;rw[Dn]at this;exact this
    ·rw[hc hne]
     have:=fin (HK e) (hk1 hne)
     rw[Dn]at this
     exact this
   have plain:Fk C.M ti o (base+32*i) (Ay σ'.slots) (Ag σ'.heap) (fun out=>EY C.M ti C.nt ops base r (i+1) ⟨F1 σ'.slots o.dst out.val,F0 σ'.heap out.wr,σ'.next⟩ K)→
     Oper.wpIn (BZ C.ro) 0 C.P o a w (wpOpsIn (BZ C.ro) 0 C.P ops Q (List.range' (i+1) r.length)) Q:=by
    intro hk
    obtain⟨out,hk,hok⟩:=GN hti h1 hst.1 hst.2 hk
    refine E5 hnd ?_
    refine Oper.wp_mono ?_ (hok _ _ _ a w Q R' (fun _ _=>rfl) (fun _ _=>rfl) (fun k hk=>by omega) hd)
    intro a' w' R2
    refine Cc hti h1 hQ r (i+1) _ a' w' hr hk ?_
    rw[DK,D6]
    exact R2.BH (fun n hn=>by omega)
   have ghost:VB C.M ti o (base+32*i) σ' (fun σ2=>EY C.M ti C.nt ops base r (i+1) σ2 K)→Oper.wpIn (BZ C.ro) 0 C.P o a w (wpOpsIn (BZ C.ro) 0 C.P ops Q (List.range' (i+1) r.length)) Q:=by
    rintro⟨σ1,hwk,hnx,hk⟩
    have R2:=hwk C a w R'
    obtain⟨out,hk,hok⟩:=GN hti h1 hst.1 hst.2 hk
    refine E5 hnd ?_
    refine Oper.wp_mono ?_ (hok _ _ _ a w Q R2 (fun _ _=>rfl) (fun _ _=>rfl) (fun k hk=>by omega) hd)
    intro a' w' R3
    refine Cc hti h1 hQ r (i+1) _ a' w' hr hk ?_
    rw[DK,D6]
    exact R3.BH (fun n hn=>by omega)
   split at hk
   rotate_left
   ·split at hk
    ·exact plain hk
    ·split at hk
     ·exact ghost ((C.M.lock_iff _).1 hk)
     ·rcases (C.M.lock_iff _).1 hk with hk | hk
      ·exact plain hk
      ·exact ghost hk
   rcases (C.M.lock_iff _).1 hk with hk | hk
   ·exact plain hk
   unfold RN at hk
   split at hk
   rotate_left
   ·exact hk.elim
   rename_i c ho
   split at hk
   rotate_left
   ·exact hk.elim
   rename_i f hc
   obtain⟨σ1,hwk,hnx,hk⟩:=hk
   obtain⟨g,R2⟩:=hwk C a w R'
   have hF:∀k,k<32→σ1.next≤base+32*i+k:=fun k _=>by omega
   have hf:=Ai ti 0 f R2 (s:=Ay σ1.slots) (fun _ _=>rfl)
   have fin:∀(σ2:St) (g2:Ac) (v:Value) (w':World),EY C.M ti C.nt ops base r (i+1) σ2 K→Ap C (fun k=>σ1.next≤k∧¬(base+32*i≤k∧k<base+32*i+32)) (Ay σ2.slots) (Ag σ2.heap) g2 (a.put o.dst v) w'→
     wpOpsIn (BZ C.ro) 0 C.P ops Q (List.range' (i+1) r.length) (a.put o.dst v) w':=fun σ2 g2 v w' hk2 R3=>
    Cc hti h1 hQ r (i+1) σ2 _ w' hr hk2 ⟨g2,R3.BH (fun n hn=>by omega)⟩
   refine⟨fun f _=>Dd _ f,?_⟩
   rw[Oper.semAt_eq _ _ _ hnd]
   split at hk
   ·rename_i n cap hop
    rw[hop]at hf
    obtain⟨hfv,hcap⟩:=hf
    unfold withArgs at hk
    split at hk
    rotate_left
    ·exact hk.elim
    rename_i xs hxs
    obtain⟨h3,h4⟩:=DJ (ti:=ti) R2 c.args.toList c.argTypes.toList xs (fun t ht=>rfl) hxs
    obtain⟨⟨fn,body,hfn,hb,hname⟩,hcall⟩:=Ib (Q:=Q) (vals:=c.args.map a.eval++(cap.map (fun i=>DG (g i) 0)).toArray) R2 hk hF hd (by simp[h3]) (fun j x v hx hv=>by
     simp only[Array.getElem?_append,Array.size_map,List.getElem?_toArray]at hv
     by_cases hj:j<c.args.size
     ·rw[if_pos hj]at hv
      rw[List.getElem?_append_left (by rw[h3];simpa using hj)]at hx
      simp only[Array.getElem?_map,Option.map_eq_some_iff]at hv
      obtain⟨p,hp,rfl⟩:=hv
      exact h4 j x p hx (by simpa using hp)
     ·rw[if_neg hj]at hv
      rw[List.getElem?_append_right (by rw[h3];simpa using hj),h3]at hx
      simp only[List.getElem?_map,Option.map_eq_some_iff,Array.length_toList]at hx hv
      obtain⟨i,hi,rfl⟩:=hx
      obtain⟨i',hi',rfl⟩:=hv
      rw[hi]at hi'
      obtain rfl:i=i':=by simpa using hi'
      obtain⟨b,hb'⟩:=hcap i (List.mem_of_getElem? hi)
      exact⟨⟨b,hb'⟩,rfl⟩)
    have hrun:(execOp a.eval o).run C.P w= .ok (.enter n (c.args.map a.eval++(cap.map (fun i=>DG (g i) 0)).toArray)) w:=by
     have hn':¬fn.name= "runtime.NumGoroutine" :=by simpa using hname
     simp[execOp,ho,resolve,hc,hfv,Deferred.ofValue,invoke,callFunc,hfn,hb,hn']
    rw[hrun,Oper.uponIn_enter]
    refine⟨C5 _,Ek (hcall.mono ?_)⟩
    intro e w' he
    cases e with
    | returned v=>obtain⟨σ2,hk2,_,g2,_,R3⟩:=he;exact fin σ2 g2 v w' hk2 R3
    | panicked ch=>exact he
    | outgrown=>exact he
   ·rename_i id hop
    rw[hop]at hf
    obtain⟨l0,hg0,hfv⟩:=hf
    unfold withArgs at hk
    split at hk
    rotate_left
    ·exact hk.elim
    rename_i xs hxs
    obtain⟨h3,h4⟩:=DJ (ti:=ti) R2 c.args.toList c.argTypes.toList xs (fun t ht=>rfl) hxs
    split at hk
    rotate_left
    ·exact hk.elim
    rename_i rf sl hid
    obtain⟨l,L,hgl,hL,hps,hround⟩:=N0 (Q:=Q) (vals:=c.args.map a.eval) R2 hid hk hF hd (by simp[h3]) (fun j x v hx hv=>by
     simp only[Array.getElem?_map,Option.map_eq_some_iff]at hv
     obtain⟨p,hp,rfl⟩:=hv
     exact h4 j x p hx (by simpa using hp))
    rw[hg0]at hgl
    obtain rfl:l0=l:=by cases hgl;rfl
    have hrun:(execOp a.eval o).run C.P w= .ok (.round l0 L.fn (Dw L.params (c.args.map a.eval) L.tmps) L.assign L.body) w:=by
     have:(Instr.yield l0 (c.args.map a.eval)).run C.P w= .ok (.round l0 L.fn (Dw L.params (c.args.map a.eval) L.tmps) L.assign L.body) w:=run_yield (P:=C.P) (args:=c.args.map a.eval) hL hps
     simp only[execOp,ho,resolve,hc,hfv,Deferred.ofValue,invoke,Sem.run_bind,Result.andThen,Sem.run_pure]
     first
      | exact this
      | simpa using this
    rw[hrun,Oper.uponIn_round]
    refine⟨C5 _,Mp (hround.mono ?_)⟩
    intro e w' he
    cases e with
    | returned v=>obtain⟨σ2,hk2,_,g2,_,R3⟩:=he;exact fin σ2 g2 v w' hk2 R3
    | panicked ch=>exact he
    | outgrown=>exact he
   ·exact hk.elim
  ·rw[if_neg (by simp[hw])]
   obtain⟨hd,hk⟩:=HF.1 hk
   refine⟨fun f _=>Dd _ f,?_⟩
   refine Cc hti h1 hQ r (i+1) _ _ w hr hk ?_
   obtain⟨g,R'⟩:=R'
   rw[DK]
   exact⟨g,(R'.put hd (v:=.t []) ⟨#[],rfl,rfl,by simp⟩).BH (fun n hn=>by omega)⟩
def H7 (C:Cx) (dr:SJ):Prop:=∀(id:Nat) (ops:Array Oper) (σ:St) (K:St→Prop) (Q:Exit→Act→World→Prop) (a:Act) (w:World),
 (∀σ a w,K σ→B0 C σ a w→Q .normal a w)→dr ops σ K→B0 C σ a w→(Code.region id ops true).wpIn (BZ C.ro) 0 C.P Q a w
theorem least {p:Nat→Prop}(h:∃n,p n):∃n,p n∧∀m,p m→n≤m:=by
 obtain⟨n,hn⟩:=h
 induction n using Nat.strongRecOn with
 | _ n ih=>
  by_cases hx:∃m,m<n∧p m
  ·obtain⟨m,hm,hp⟩:=hx
   exact ih m hm hp
  ·exact⟨n,hn,fun m hp=>Nat.le_of_not_lt (fun hlt=>hx ⟨m,hlt,hp⟩)⟩
theorem PG {P:Program}{a:Act}{w:World}{g:Operand}{l n:Nat}{Mj:Array Value}{fn:Func}{body:Code}(hf:a.eval g= .func (.func n) #[] Mj) (hfn:P.funcs[n]?=some fn) (hb:fn.body=some body) (hname:(fn.name== "runtime.NumGoroutine")=false):
  ∃d,(resolve a.eval (rangeCall g l) 0).run P w= .ok d w∧(invoke d.target d.args).run P w= .ok (.enter n (#[.func (.yield l) #[] #[]]++Mj)) w:=by
 have hn':¬fn.name= "runtime.NumGoroutine" :=by simpa using hname
 have he:a.eval (.const (.func (.yield l) #[] #[]))= .func (.yield l) #[] #[]:=rfl
 refine⟨⟨.fn (.func n) Mj,#[.func (.yield l) #[] #[]]⟩,?_,?_⟩
 ·simp[resolve,rangeCall,hf,he,Deferred.ofValue]
 ·simp[invoke,callFunc,hfn,hb,hn']
theorem PH {F:Nat→Prop}{s:Af}{h:Heap}{g:Ac}{a:Act}{w:World}(R:Ap C F s h g a w) {n:Nat}(hn:F n) (ps:Array Tmp) (assign body:Code) (sl:List (Nat×AV)) (hsl:∀t,Ay sl t= .u∨Ay sl t=s t) (fn:FuncId):
  ∃l mark w1 C2 g2,(Instr.enterLoop fn a.tmps ps assign body (BZ C.ro).round).run C.P w= .ok (l,mark) w1∧Df C C2∧C2.w0.heap.size≤l∧g2 (.loc n)= .map (some l)∧
   Ap C2 (fun k=>F k∧k≠n) s (AX h (.loc n) (.rnd (fun _=>⟨ps,assign,body,C.nt⟩) sl)) g2 {a with defers:=mark++a.defers} w1∧(∀v,BM w1 (BN (zone g2 (AX h (.loc n) (.rnd (fun _=>⟨ps,assign,body,C.nt⟩) sl))) C2.X) g2 (AX h (.loc n) (.rnd (fun _=>⟨ps,assign,body,C.nt⟩) sl)) (.yl (.loc n)) v↔v= .func (.yield l) #[] #[])∧
   (∀i,i≠ .loc n→g2 i=g i):=by
 rw[Mo]
 have hX:∀b o,C.X b o→b<w.heap.size:=fun b o hx=>Nat.lt_of_lt_of_le (R.xs b o hx) R.frame.size
 have slr:∀{Z:Av} {w:World} {g:Ac} {h:Heap} {v:Value} {t:Nat},BG w Z g h (s t) v→BG w Z g h (Ay sl t) v:=by
  intro Z w g h v t hr
  rcases hsl t with e | e
  ·rw[e];trivial
  ·rw[e];exact hr
 have yl:∀{g2:Ac} {w:World} {Z:Av} {h:Heap} {l:Nat} (_:g2 (.loc n)= .map (some l)) (v:Value),BM w Z g2 h (.yl (.loc n)) v↔v= .func (.yield l) #[] #[]:=by
  intro g2 w Z h l e v
  constructor
  ·rintro⟨l',h1,h2⟩
   rw[e]at h1;cases h1;exact h2
  ·intro h;exact⟨l,e,h⟩
 cases hro:C.ro with
 | none=>
  let wD:=w.alloc (.deferred (some []))
  let X2:Av:=fun b o=>C.X b o∨b=w.heap.size
  have hsz:wD.heap.size=w.heap.size+1:=by simp[wD]
  have hinv:C.M.I.at wD (BN (zone g h) X2):=by
   obtain⟨i1,i2⟩:=R.inv
   refine⟨C.M.I.same (fun b hb=>Below.heap_alloc w _ b (i2 b hb).1) i1,fun b hb=>⟨by have:=(i2 b hb).1;omega,?_⟩⟩
   rintro o (hz | hz | hz)
   ·exact (i2 b hb).2 o (.inl hz)
   ·exact (i2 b hb).2 o (.inr hz)
   ·have:=(i2 b hb).1;omega
  have hD:∀r∈w.heap.size::C.D,wD.heap[r]?=some (.deferred (some []))∧∀o,¬zone g h r o:=by
   intro r hr
   rcases List.mem_cons.1 hr with rfl | hr
   ·refine⟨heap_alloc_new w _,?_⟩
    rintro o ⟨i,ob,hi,hz⟩
    have:=(R.heap.objs i ob hi).lt hz.G4
    omega
   ·obtain⟨k1,k2⟩:=C.hD r hr
    obtain⟨k3,k4⟩:=R.kept k1 k2
    exact⟨(Below.heap_alloc w _ r (Array.getElem?_eq_some_iff.1 k3).1).trans k3,k4⟩
  have hDn:(w.heap.size::C.D).Nodup:=by
   refine List.nodup_cons.2 ⟨fun hm=>?_,C.hDn⟩
   have:=(Array.getElem?_eq_some_iff.1 (C.hD _ hm).1).1
   have:=R.frame.size
   omega
  let C2:Cx:={M:=C.M,nt:=C.nt,w0:=wD,Z0:=zone g h,X:=X2,g0:=g,hinv:=hinv,ro:=C.ro,D:=w.heap.size::C.D,hro:=fun l hl=>(by rw[hro]at hl;cases hl),hD:=hD,hDn:=hDn}
  have A:De (fun _=>False) w wD:=⟨rfl,rfl,rfl,by omega,fun b hb _=>Below.heap_alloc w _ b hb⟩
  have R2:Ap C2 F s h g {a with defers:=GC w.heap.size::a.defers} wD:=by
   refine R.Oe A rfl rfl (fun i o hi=>.inl hi) (fun b o hb=>hb.elim) (fun i ob b hi hb hB=>hB) ?_ ?_ ?_ rfl (fun b o hz=>hz) (fun j=>.refl _) rfl (by show _=GC w.heap.size::C.D.map GC;rw[←R.defers]) (fun k hk=>(R.free k hk).2)
   ·rintro b o (hx | hx)
    ·exact .inl (.inr hx)
    ·exact .inr (by omega)
   ·rintro b o (hx | hx)
    ·have:=hX b o hx;omega
    ·omega
   ·rintro i ob b o hi hb (hx | hx)
    ·exact R.heap.apart i ob b o hi hb hx
    ·have:=(R.heap.objs i ob hi).lt hb;omega
  have L:Df C C2:=by
   refine⟨rfl,rfl,rfl,fun b o hx=>.inl hx,?_,fun b o hz=>?_,fun j=>R.ext j,fun hn=>absurd hro hn,[w.heap.size],rfl,?_⟩
   ·exact R.frame.then ⟨rfl,rfl,rfl,(by show w.heap.size≤wD.heap.size;omega),fun b hb _=>Below.heap_alloc w _ b hb,fun b o u hu _=>A.cell hu (fun h=>h)⟩ (Z':=fun _ _=>False) (fun _ _ h=>h.elim)
   ·obtain⟨i,ob,hi,h1⟩:=hz
    exact R.within i ob b o hi h1
   ·intro r hr
    simp at hr
    subst hr
    exact⟨R.frame.size,fun o=>.inr rfl⟩
  have R3:=R2.Px hn {state:=.ready,pending:=none,fn:=fn,tmps:=a.tmps,params:=ps,assign:=assign,body:=body,defers:=w.heap.size} (fun _=>⟨ps,assign,body,C.nt⟩) sl rfl rfl rfl rfl rfl R.size (fun t=>slr (R2.slots t))
  refine⟨w.heap.size+1,[GC w.heap.size],_,C2,_,run_enterLoop_outer fn a.tmps ps assign body,L,(by show wD.heap.size≤_;omega),?_,R3,yl ?_,fun i hi=>by simp[Au,hi]⟩
  ·simp[Au,hsz]
  ·simp[Au,hsz]
 | some l0=>
  obtain⟨⟨L0,hL0⟩,hz0⟩:=C.hro l0 hro
  obtain⟨k1,k2⟩:=R.kept hL0 hz0
  have R3:=R.Px hn {state:=.ready,pending:=none,fn:=fn,tmps:=a.tmps,params:=ps,assign:=assign,body:=body,defers:=L0.defers} (fun _=>⟨ps,assign,body,C.nt⟩) sl rfl rfl rfl rfl rfl R.size (fun t=>slr (R.slots t))
  refine⟨w.heap.size,[],_,C,_,?_,Df.refl C,R.frame.size,?_,R3,yl ?_,fun i hi=>by simp[Au,hi]⟩
  ·unfold Instr.enterLoop
   simp only[Sem.run_bind,run_getLoop k1,run_newObj_alloc,Result.andThen,Sem.run_pure,pure_bind]
  ·simp[Au]
  ·simp[Au]
theorem PI {F:Nat→Prop}{s:Af}{h:Heap}{g:Ac}{a:Act}{w:World}(R:Ap C F s h g a w) {i:Id}{ob:AQ}{l:Nat}{L:Loop}(hi:h i=some ob) (hob:∀o,Bg (g i) ob l o) (hl:w.heap[l]?=some (.loop L)) (hnew:C.w0.heap.size≤l) (o':Obj):
  ∃C2,Df C C2∧Ap C2 F s (AX h i .gone) g a (w.putObj l o'):=by
 have hlt:l<w.heap.size:=(Array.getElem?_eq_some_iff.1 hl).1
 have hX:∀b o,C.X b o→b<w.heap.size:=fun b o hx=>Nat.lt_of_lt_of_le (R.xs b o hx) R.frame.size
 have hO:∀b,ET (g i) ob b→b=l∨True:=fun _ _=>.inr trivial
 have hgo:∀j o,AX h i .gone j=some o→(h j=some o∧j≠i)∨o= .gone:=by
  intro j o hj
  by_cases e:j=i
  ·subst e;simp[AX]at hj;exact .inr hj.symm
  ·simp[AX,e]at hj;exact .inl ⟨hj,e⟩
 have zsub:∀b o,zone g (AX h i .gone) b o→zone g h b o∧b≠l:=by
  rintro b o ⟨j,ob',hj,hz⟩
  rcases hgo j ob' hj with⟨h1,h2⟩ | rfl
  ·refine⟨⟨j,ob',h1,hz⟩,?_⟩
   rintro rfl
   exact h2 (R.heap.sep j i ob' ob b h1 hi hz.G4 (hob o).G4)
  ·exact hz.elim
 have kept:∀{b:Nat} {o:Obj},C.w0.heap[b]?=some o→(∀p,¬C.Z0 b p)→(w.putObj l o').heap[b]?=some o∧∀p,¬zone g (AX h i .gone) b p:=by
  intro b o hb hz
  obtain⟨k1,k2⟩:=R.kept hb hz
  have:b<C.w0.heap.size:=(Array.getElem?_eq_some_iff.1 hb).1
  exact⟨(World.putObj_heap_other (by omega)).trans k1,fun p hp=>k2 p (zsub b p hp).1⟩
 have hinv:C.M.I.at (w.putObj l o') (BN (zone g (AX h i .gone)) C.X):=by
  obtain⟨i1,i2⟩:=R.inv
  have ne:∀b,C.M.I.blocks b→b≠l:=by
   rintro b hb rfl
   exact (i2 b hb).2 0 (.inl ⟨i,ob,hi,hob 0⟩)
  refine⟨C.M.I.same (fun b hb=>World.putObj_heap_other (ne b hb)) i1,fun b hb=>⟨by simpa using (i2 b hb).1,fun o hz=>(i2 b hb).2 o (hz.imp (fun h=>(zsub b o h).1) id)⟩⟩
 have hro:∀l0,C.ro=some l0→(∃L0,(w.putObj l o').heap[l0]?=some (.loop L0))∧∀p,¬zone g (AX h i .gone) l0 p:=by
  intro l0 hl0
  obtain⟨⟨L0,k1⟩,k2⟩:=C.hro l0 hl0
  exact⟨⟨L0,(kept k1 k2).1⟩,(kept k1 k2).2⟩
 let C2:Cx:={M:=C.M,nt:=C.nt,w0:=w.putObj l o',Z0:=zone g (AX h i .gone),X:=C.X,g0:=g,hinv:=hinv,ro:=C.ro,D:=C.D,hro:=hro,hD:=fun r hr=>kept (C.hD r hr).1 (C.hD r hr).2,hDn:=C.hDn}
 have A:De (fun b=>b=l) w (w.putObj l o'):=⟨rfl,rfl,rfl,by simp,fun b _ hb=>World.putObj_heap_other hb⟩
 refine⟨C2,⟨rfl,rfl,rfl,fun _ _ h=>h,?_,fun b o hz=>?_,fun j=>R.ext j,fun _=>rfl,[],rfl,by simp⟩,?_⟩
 ·refine R.frame.then (Z':=fun b _=>b=l) ⟨rfl,rfl,rfl,Nat.le_of_eq World.putObj_size.symm,fun b _ hb=>World.putObj_heap_other (fun e=>hb 0 e),fun b o u hu hb=>A.cell hu hb⟩ ?_
  rintro p o rfl
  exact .inr hnew
 ·obtain⟨j,ob',hj,h1⟩:=(zsub b o hz).1
  exact R.within j ob' b o hj h1
 ·refine R.Oe A rfl rfl (fun j o hj=>(hgo j o hj).imp (·.1) id) ?_ ?_ (fun b o hx=>.inl (.inr hx)) (fun b o hx=>by simpa using hX b o hx) ?_ rfl (fun b o hz=>hz) (fun j=>.refl _) rfl R.defers (fun k hk=>?_)
  ·rintro b o rfl;exact .inl ⟨i,ob,hi,hob o⟩
  ·rintro j ob' b hj hb rfl
   obtain⟨p,hp⟩:=hb.zone
   exact (zsub b p ⟨j,ob',hj,hp⟩).2 rfl
  ·intro j ob' b o hj hb hx
   rcases hgo j ob' hj with⟨h1,_⟩ | rfl
   ·exact R.heap.apart j ob' b o h1 hb hx
   ·exact hb.elim
  ·have:=(R.free k hk).2
   have hne:Id.loc k≠i:=by rintro rfl;rw[this]at hi;cases hi
   simp[AX,hne,this]
theorem PJ {σ:St}{K:B1→St→Prop}{a:Act}{w:World}{gop:Operand}{ps:Array Tmp}{assign body:Code}(hk:QV C.M ti C.nt gop ps assign body σ K) (R:B0 C σ a w):
  (Code.rangeFunc gop ps assign body).wpIn (BZ C.ro) 0 C.P (P0 C K) a w:=by
 obtain⟨σ1,hwk,hk⟩:=hk
 obtain⟨g,R1⟩:=hwk C a w R
 have hf:=Ai ti 0 gop R1 (s:=Ay σ1.slots) (fun _ _=>rfl)
 split at hk
 rotate_left
 ·exact hk.elim
 rename_i n cap hop
 rw[hop]at hf
 obtain⟨hfv,hcap⟩:=hf
 obtain⟨sl,hsl,hk⟩:=hk
 refine wpIn_rangeFunc fun fn _=>?_
 obtain⟨l,mark,w1,C2,g2,hent,hle,hlnew,hgl,R2,hyl,hg2⟩:=PH R1 (n:=σ1.next) (Nat.le_refl _) ps assign body sl hsl fn
 have hcapne:∀i∈cap,i≠ .loc σ1.next:=by
  rintro i hi rfl
  obtain⟨b,hb⟩:=hcap _ hi
  rw[(R1.free σ1.next (Nat.le_refl _)).1]at hb
  simp[undef]at hb
 rw[←hle.M]at hk
 have R2':Ap C2 (fun k=>σ1.next≤k∧k≠σ1.next) (Ay σ1.slots) (Ag (DQ σ1.heap (.loc σ1.next) (.rnd (fun _=>⟨ps,assign,body,C.nt⟩) sl))) g2 {a with defers:=mark++a.defers} w1:=by
  rw[Cr];exact R2
 have hsound:=Ib (C:=C2) (Q:=P0 C K) (vals:=#[.func (.yield l) #[] #[]]++(cap.map (fun i=>DG (g i) 0)).toArray) (σ:=⟨σ1.slots,DQ σ1.heap (.loc σ1.next) (.rnd (fun _=>⟨ps,assign,body,C.nt⟩) sl),σ1.next+64⟩) R2' hk (fun k hk=>⟨by omega,by omega⟩) (by simp) (by simp[Nat.add_comm]) (fun j x v hx hv=>by
  match j with
  | 0=>
   simp at hx hv
   subst hx;subst hv
   have:=(hyl (.func (.yield l) #[] #[])).2 rfl
   rw[←Cr]at this
   exact this
  | j+1=>
   simp only[List.getElem?_cons_succ,List.getElem?_map,Option.map_eq_some_iff]at hx
   obtain⟨i,hi,rfl⟩:=hx
   rw[Array.getElem?_append_right (by simp)]at hv
   simp only[List.size_toArray,List.length_cons,List.length_nil,Nat.zero_add,Nat.add_sub_cancel,List.getElem?_toArray,List.getElem?_map,Option.map_eq_some_iff]at hv
   obtain⟨i',hi',rfl⟩:=hv
   rw[hi]at hi'
   obtain rfl:i=i':=by simpa using hi'
   obtain⟨b,hb⟩:=hcap i (List.mem_of_getElem? hi)
   have e:=hg2 i (hcapne i (List.mem_of_getElem? hi))
   exact⟨⟨b,by rw[e];exact hb⟩,by rw[e]⟩)
 obtain⟨⟨fnc,cbody,hfn,hb,hname⟩,hcall⟩:=hsound
 have hP:C2.P=C.P:=by show C2.M.P=C.M.P;rw[hle.M]
 rw[hP]at hfn hcall
 obtain⟨d,hres,hinv⟩:=PG (P:=C.P) (w:=w1) (l:=l) hfv hfn hb hname
 refine⟨l,mark,w1,d,w1,n,_,w1,hent,hres,fun f _=>Dd _ f,hinv,fun h=>absurd (C5 C.ro h) (by omega),Ek (hcall.mono ?_)⟩
 intro e w3 he
 cases e with
 | panicked ch=>exact he
 | outgrown=>exact he
 | returned v=>
  obtain⟨σ2,hk2,hnx,g3,hg3,R3⟩:=he
  have hg3l:g3 (.loc σ1.next)= .map (some l):=by rw[hg3 _ _ hgl];exact hgl
  have ha:(({a with defers:=mark++a.defers}:Act).put none v)={a with defers:=mark++a.defers}:=rfl
  rw[ha]at R3
  have leave:∀(ob:AQ) (L:Loop),Ag σ2.heap (.loc σ1.next)=some ob→(∀b o,Bg (g3 (.loc σ1.next)) ob b o↔Bi (g3 (.loc σ1.next)) b)→w3.heap[l]?=some (.loop L)→L.state≠ .busy→
    ∃C3 w4,Df C C3∧(Instr.endLoop l).run C.P w3= .ok L.pending w4∧B0 C3 ⟨σ2.slots,DQ σ2.heap (.loc σ1.next) .gone,σ2.next⟩ {a with defers:=mark++a.defers} w4:=by
   intro ob L ho hz hl hb
   obtain⟨C3,hle3,R4⟩:=PI R3 ho (l:=l) (L:=L) (fun o=>(hz l o).2 (by rw[hg3l];exact .inl rfl)) hl hlnew (.loop {L with state:=.exhausted})
   refine⟨C3,_,hle.trans hle3,run_endLoop hl hb,g3,?_⟩
   rw[Cr]
   refine R4.BH fun k hk=>?_
   have hk:σ2.next≤k:=hk
   rw[hnx]at hk
   have hk:σ1.next+64≤k:=hk
   exact⟨⟨by omega,by omega⟩,by omega⟩
  show rangePost _ _ _ _ _ _ _ _
  unfold rangePost
  simp only[]
  split at hk2
  ·rename_i r2 sl2 ho
   obtain⟨l',L,e1,e2,e3,e4,_⟩:=R3.heap.objs _ _ ho
   rw[hg3l]at e1
   cases e1
   obtain⟨C3,w4,k1,k2,k3⟩:=leave _ L ho (fun _ _=>Iff.rfl) e2 (by rw[e3];simp)
   exact⟨_,w4,k2,by rw[e4];exact⟨C3,k1,_,hk2,k3⟩⟩
  ·rename_i j ho
   obtain⟨l',L,e1,e2,e3,e4⟩:=R3.heap.objs _ _ ho
   rw[hg3l]at e1
   cases e1
   obtain⟨C3,w4,k1,k2,k3⟩:=leave _ L ho (fun _ _=>Iff.rfl) e2 (by rw[e3];simp)
   refine⟨_,w4,k2,?_⟩
   rw[e4]
   cases j with
   | none=>exact wpIn_ret ⟨C3,k1,_,hk2,k3⟩
   | some id=>exact wpIn_exit ⟨C3,k1,_,hk2,k3⟩
  ·exact hk2.elim
end
def V6 (F:Fence) (n:Nat) (P:Program) (c:Code) (Q:Exit→Act→World→Prop) (a:Act) (w:World):Prop:=
 ∃(J:Act→World→Prop) (μ:Act→World→Nat),J a w∧∀a w,J a w→c.wpIn F n P (Exit.then (fun a' w'=>J a' w'∧μ a' w'<μ a w) Q) a w
def Kf (F:Fence) (n:Nat) (P:Program) (c:Code) (Q:Exit→Act→World→Prop):Nat→Act→World→Prop
 | 0,a,w=>V6 F n P c Q a w
 | m+1,a,w=>c.wpIn F n P (Exit.then (Kf F n P c Q m) Q) a w
theorem Ie {F:Fence}{n:Nat}{P:Program}{Q:Exit→Act→World→Prop}{a:Act}{w:World}{c:Code}(m:Nat) (h:Kf F n P c Q m a w):(Code.loop c).wpIn F n P Q a w:=by
 intro b k cs hro hb hr
 have base:∀(J:Act→World→Prop) (μ:Act→World→Nat),(∀a w,J a w→c.wpIn F n P (Exit.then (fun a' w'=>J a' w'∧μ a' w'<μ a w) Q) a w)→∀j a w,μ a w=j→J a w→
   ∃e a' w',Q e a' w'∧ArrivesIn (Machine.fenced P F) P (lone (b.atR a (.code c::.inLoop c::k)) cs w) b k cs e a' w':=by
  intro J μ round j
  induction j using Nat.strongRecOn with
  | _ j ih=>
   intro a w hn hI
   obtain⟨e,a₁,w₁,hq,harr⟩:=round a w hI b (.inLoop c::k) cs hro hb hr
   cases e with
   | normal=>
    obtain⟨hI₁,hlt⟩:=hq
    obtain⟨e₂,a₂,w₂,hq₂,harr₂⟩:=ih (μ a₁ w₁) (hn▸hlt) a₁ w₁ rfl hI₁
    exact⟨e₂,a₂,w₂,hq₂,.of_steps (StepsIn.trans harr (.one (fenced_calm hb hr rfl) stepR_inLoop)) harr₂⟩
   | exit id=>exact⟨_,a₁,w₁,hq,.pass (x:=.inLoop c) rfl (fun _ _=>.inl (by simp)) harr⟩
   | goto l=>exact⟨_,a₁,w₁,hq,.pass (x:=.inLoop c) rfl (fun _ _=>.inl (by simp)) harr⟩
   | ret=>exact⟨_,a₁,w₁,hq,.pass (x:=.inLoop c) rfl (fun _ _=>.inl (by simp)) harr⟩
   | panic ch=>exact⟨_,a₁,w₁,hq,.pass (x:=.inLoop c) rfl (fun _ _=>.inl (by simp)) harr⟩
   | outgrown=>exact⟨_,a₁,w₁,hq,.pass (x:=.inLoop c) rfl (fun _ _=>.inl (by simp)) harr⟩
 have key:∀m a w,Kf F n P c Q m a w→
   ∃e a' w',Q e a' w'∧ArrivesIn (Machine.fenced P F) P (lone (b.atR a (.code c::.inLoop c::k)) cs w) b k cs e a' w':=by
  intro m
  induction m with
  | zero=>
   rintro a w ⟨J,μ,h0,hr⟩
   exact base J μ hr _ a w rfl h0
  | succ m ih=>
   intro a w h
   obtain⟨e,a₁,w₁,hq,harr⟩:=h b (.inLoop c::k) cs hro hb hr
   cases e with
   | normal=>
    obtain⟨e₂,a₂,w₂,hq₂,harr₂⟩:=ih a₁ w₁ hq
    exact⟨e₂,a₂,w₂,hq₂,.of_steps (StepsIn.trans harr (.one (fenced_calm hb hr rfl) stepR_inLoop)) harr₂⟩
   | exit id=>exact⟨_,a₁,w₁,hq,.pass (x:=.inLoop c) rfl (fun _ _=>.inl (by simp)) harr⟩
   | goto l=>exact⟨_,a₁,w₁,hq,.pass (x:=.inLoop c) rfl (fun _ _=>.inl (by simp)) harr⟩
   | ret=>exact⟨_,a₁,w₁,hq,.pass (x:=.inLoop c) rfl (fun _ _=>.inl (by simp)) harr⟩
   | panic ch=>exact⟨_,a₁,w₁,hq,.pass (x:=.inLoop c) rfl (fun _ _=>.inl (by simp)) harr⟩
   | outgrown=>exact⟨_,a₁,w₁,hq,.pass (x:=.inLoop c) rfl (fun _ _=>.inl (by simp)) harr⟩
 obtain⟨e,a',w',hq,harr⟩:=key m a w h
 exact⟨e,a',w',hq,.of_steps (.one (fenced_calm hb hr rfl) stepR_loop) harr⟩
theorem Br {ti:Types}{dr:SJ}{M:BS}{nt:Nat}{ro:Option Nat}(hti:BV M.P ti) (h1:Bo ti) (hdr:∀C:Cx,C.M=M→C.nt=nt→H7 C dr):∀(c:Code) (σ:St) (K:B1→St→Prop) (C:Cx) (a:Act) (w:World),C.M=M→C.nt=nt→C.ro=ro→
  exec M ti nt dr c σ K→B0 C σ a w→c.wpIn (BZ ro) 0 M.P (P0 C K) a w
 | .skip,σ,K,C,a,w,_,_,_,hk,R=>wpIn_skip ⟨C,.refl C,σ,hk,R⟩
 | .region id ops draw,σ,K,C,a,w,hM,hn,hr,hk,R=>by
  subst hM;subst hn;subst hr
  cases draw with
  | false=>
   refine wpIn_region ?_
   have:=Cc (Q:=P0 C K) hti h1 (fun σ a w hk R=>⟨C,.refl C,σ,hk,R⟩) ops.toList 0 σ a w rfl hk (R.BH (fun n hn=>by omega))
   simpa [List.range_eq_range'] using this
  | true=>exact hdr C rfl rfl id ops σ _ (P0 C K) a w (fun σ a w hk R=>⟨C,.refl C,σ,hk,R⟩) hk R
 | .seq x y,σ,K,C,a,w,hM,hn,hr,hk,R=>by
  rcases (M.lock_iff _).1 hk with hk | ⟨I,hk,hb⟩
  ·refine wpIn_seq (wpIn_mono (Br hti h1 hdr x σ _ C a w hM hn hr hk R) ?_)
   intro e a' w' hq
   cases e with
   | normal=>
    obtain⟨C',hle,σ',hk',R'⟩:=hq
    exact wpIn_mono (Br hti h1 hdr y σ' K C' a' w' (hle.M.trans hM) (hle.nt.trans hn) (hle.ro.trans hr) hk' R') fun e a w q=>q.mono hle
   | exit id=>exact hq
   | ret=>exact hq
   | goto l=>exact hq
   | panic ch=>exact hq
   | outgrown=>exact hq
  ·refine wpIn_seq (wpIn_mono (Br hti h1 hdr x σ _ C a w hM hn hr hk R) ?_)
   intro e a' w' hq
   cases e with
   | normal=>
    obtain⟨C',hle,σ',⟨σ2,hw,hi⟩,R'⟩:=hq
    exact wpIn_mono (Br hti h1 hdr y σ2 K C' a' w' (hle.M.trans hM) (hle.nt.trans hn) (hle.ro.trans hr) (hb σ2 hi) (hw _ _ _ R')) fun e a w q=>q.mono hle
   | exit id=>exact hq
   | ret=>exact hq
   | goto l=>exact hq
   | panic ch=>exact hq
   | outgrown=>exact hq
 | .cond c x y,σ,K,C,a,w,hM,hn,hr,hk,R=>by
  obtain⟨q,hq,hk⟩:=M5.1 hk
  have hc:a.eval c= .bool q:=by
   obtain⟨g,R'⟩:=R
   have:=Ai ti 0 c R' (s:=Ay σ.slots) (fun _ _=>rfl)
   rw[hq]at this
   exact Nk this
  refine wpIn_cond hc ?_
  cases q with
  | true=>exact Br hti h1 hdr x σ K C a w hM hn hr hk R
  | false=>exact Br hti h1 hdr y σ K C a w hM hn hr hk R
 | .block id c,σ,K,C,a,w,hM,hn,hr,hk,R=>by
  refine wpIn_block (wpIn_mono (Br hti h1 hdr c σ _ C a w hM hn hr hk R) ?_)
  intro e a' w' hq
  cases e with
  | normal=>exact hq
  | exit id'=>
   obtain⟨C',hle,σ',hk',R'⟩:=hq
   show if id'=id then P0 C K .normal a' w' else P0 C K (.exit id') a' w'
   revert hk'
   simp only[]
   cases hb:Nat.beq id' id with
   | true=>
    intro hk'
    rw[if_pos (Nat.eq_of_beq_eq_true hb)]
    exact⟨C',hle,σ',hk',R'⟩
   | false=>
    intro hk'
    rw[if_neg (Nat.ne_of_beq_eq_false hb)]
    exact⟨C',hle,σ',hk',R'⟩
  | ret=>exact hq
  | goto l=>exact hq
  | panic ch=>exact hq
  | outgrown=>exact hq
 | .loop c,σ,K,C,a,w,hM,hn,hr,hk,R=>by
  classical
  have lp:∀σ C' a w,Df C C'→KC (fun σ K=>exec M ti nt dr c σ K) σ K→B0 C' σ a w→V6 (BZ ro) 0 M.P c (P0 C K) a w:=by
   rintro σ C' a w hle ⟨I,m,⟨σ0,hw,hI⟩,hround⟩ R
   let J:Act→World→Prop:=fun a w=>∃n σ C',Df C C'∧I n σ∧B0 C' σ a w
   let μ:Act→World→Nat:=fun a w=>if h:∃n σ C',Df C C'∧I n σ∧B0 C' σ a w then Classical.choose (least h)else 0
   have hμ:∀a w n σ C',Df C C'→I n σ→B0 C' σ a w→μ a w≤n:=by
    intro a w n σ C' hle hi hr
    have hh:∃n σ C',Df C C'∧I n σ∧B0 C' σ a w:=⟨n,σ,C',hle,hi,hr⟩
    show (if h:∃n σ C',Df C C'∧I n σ∧B0 C' σ a w then Classical.choose (least h)else 0)≤n
    rw[dif_pos hh]
    exact (Classical.choose_spec (least hh)).2 n ⟨σ,C',hle,hi,hr⟩
   refine⟨J,μ,⟨m,σ0,C',hle,hI,hw _ _ _ R⟩,?_⟩
   rintro a w ⟨n0,σ1,C1,hle1,hi0,hr0⟩
   have hh:∃n σ C',Df C C'∧I n σ∧B0 C' σ a w:=⟨n0,σ1,C1,hle1,hi0,hr0⟩
   obtain⟨σ2,C2,hle2,hi,hr2⟩:=(Classical.choose_spec (least hh)).1
   have hμa:μ a w=Classical.choose (least hh):=dif_pos hh
   refine wpIn_mono (Br hti h1 hdr c σ2 _ C2 a w (hle2.M.trans hM) (hle2.nt.trans hn) (hle2.ro.trans hr) (hround _ σ2 hi) hr2) ?_
   intro e a' w' hq
   cases e with
   | normal=>
    obtain⟨C3,hle3,σ',⟨n',σ3,hlt,hwk,hi3⟩,R'⟩:=hq
    exact⟨⟨n',σ3,C3,hle2.trans hle3,hi3,hwk _ _ _ R'⟩,by
     have:=hμ a' w' n' σ3 C3 (hle2.trans hle3) hi3 (hwk _ _ _ R')
     omega⟩
   | exit id=>exact P0.mono hle2 hq
   | ret=>exact P0.mono hle2 hq
   | goto l=>exact hq
   | panic ch=>exact hq
   | outgrown=>exact hq
  have key:∀n σ C' a w,Df C C'→EZ M (fun σ K=>exec M ti nt dr c σ K) K n σ→B0 C' σ a w→Kf (BZ ro) 0 M.P c (P0 C K) n a w:=by
   intro n
   induction n with
   | zero=>intro σ C' a w hle h R;exact lp σ C' a w hle ((M.lock_iff _).1 h) R
   | succ n ih=>
    intro σ C' a w hle h R
    refine wpIn_mono (Br hti h1 hdr c σ _ C' a w (hle.M.trans hM) (hle.nt.trans hn) (hle.ro.trans hr) h R) ?_
    intro e a' w' hq
    cases e with
    | normal=>
     obtain⟨C2,hle2,σ',h',R'⟩:=hq
     exact ih σ' C2 a' w' (hle.trans hle2) h' R'
    | exit id=>exact P0.mono hle hq
    | ret=>exact P0.mono hle hq
    | goto l=>exact hq
    | panic ch=>exact hq
    | outgrown=>exact hq
  rcases (M.lock_iff _).1 hk with hk | ⟨n,hk⟩
  ·exact Ie 0 (lp σ C a w (.refl C) hk R)
  ·exact Ie n (key n σ C a w (.refl C) hk R)
 | .exit id,σ,K,C,a,w,_,_,_,hk,R=>wpIn_exit ⟨C,.refl C,σ,hk,R⟩
 | .ret,σ,K,C,a,w,_,_,_,hk,R=>wpIn_ret ⟨C,.refl C,σ,hk,R⟩
 | .rangeFunc g ps assign body,σ,K,C,a,w,hM,hn,hr,hk,R=>by
  subst hM;subst hn;subst hr
  exact PJ ((C.M.lock_iff _).1 hk) R
 | .scope _,_,_,_,_,_,_,_,_,hk,_=>hk.elim
 | .label _,_,_,_,_,_,_,_,_,hk,_=>hk.elim
 | .goto _,_,_,_,_,_,_,_,_,hk,_=>hk.elim
 | .refuse _,_,_,_,_,_,_,_,_,hk,_=>hk.elim
end Go.AM
namespace Go.AM
open Go Go.RowKit
def KE (n:Nat):Id→Bool
 | .loc k=>Nat.blt k n
 | .ext _=>true
def V7 (n:Nat):CV→Bool
 | .ptr i _=>KE n i
 | .fn _ cap=>Ci (KE n) cap
 | .lst i _ _ _=>KE n i
 | .sl i _=>KE n i
 | .map i=>KE n i
 | .ap i _ _ _ _=>KE n i
 | .ow i=>KE n i
 | .op i _ _ _=>KE n i
 | .yl i=>KE n i
 | .bm _ i=>KE n i
 | _=>true
def Y7 (n:Nat):V1→Bool
 | .d _=>true
 | .c x=>V7 n x
 | .agg cs=>Ci (V7 n) cs
def Xs (n:Nat):AV→Bool
 | .u=>true
 | .v x=>Y7 n x
 | .t xs=>Ci (Y7 n) xs
def VD (n:Nat):AQ→Bool
 | .cells cs=>Ci (V7 n) cs
 | .tok ..=>true
 | .map ..=>true
 | .arr cs1 _ _ _ cs2=>match Ci (V7 n) cs1 with
  | true=>Ci (V7 n) cs2
  | false=>false
 | .tree _ _ _ _ foc=>match foc with
  | some x=>Ci (V7 n) x.2
  | none=>true
 | .pmap _ _ _ _ foc=>match foc with
  | some x=>KE n x.2
  | none=>true
 | .part ..=>true
 | .gone=>true
 | .rnd _ sl=>Ci (fun x=>Xs n x.2) sl
 | .rndX _=>true
theorem CU {α:Type}{f:α→α}{l:List α}(h:∀x∈l,f x=x):l.map f=l:=by
 induction l with
 | nil=>rfl
 | cons x l ih=>simp[h x (by simp),ih (fun y hy=>h y (by simp[hy]))]
section
variable {n N:Nat}
def low (n N:Nat):Id→Id
 | .loc k=>if k<n then .loc k else .loc N
 | .ext j=>.ext j
theorem CN {i:Id}(h:KE n i=true):low n N i=i:=by
 cases i with
 | ext j=>rfl
 | loc k=>
  have:k<n:=by simpa [KE] using h
  simp[low,this]
theorem Jt {c:CV}(h:V7 n c=true):c.BW (low n N)=c:=by
 cases c<;>simp only[CV.BW,V7]at h ⊢
 ·rw[CN h]
 ·congr 1
  rw[Ba]at h
  exact CU fun i hi=>CN (h i hi)
 ·rw[CN h]
 ·rw[CN h]
 ·rw[CN h]
 ·rw[CN h]
 ·rw[CN h]
 ·rw[CN h]
 ·rw[CN h]
 ·rw[CN h]
theorem TA {c:V1}(h:Y7 n c=true):c.BW (low n N)=c:=by
 cases c<;>simp only[V1.BW,Y7]at h ⊢
 ·rw[Jt h]
 ·congr 1
  rw[Ba]at h
  exact CU fun i hi=>Jt (h i hi)
theorem TB {c:AV}(h:Xs n c=true):c.BW (low n N)=c:=by
 cases c<;>simp only[AV.BW,Xs]at h ⊢
 ·rw[TA h]
 ·congr 1
  rw[Ba]at h
  exact CU fun i hi=>TA (h i hi)
theorem VE {c:AQ}(h:VD n c=true):c.BW (low n N)=c:=by
 cases c<;>simp only[AQ.BW,VD]at h ⊢
 ·congr 1
  rw[Ba]at h
  exact CU fun i hi=>Jt (h i hi)
 ·split at h
  ·rename_i h1
   rw[Ba]at h h1
   rw[CU fun i hi=>Jt (h1 i hi),CU fun i hi=>Jt (h i hi)]
  ·cases h
 ·congr 1
  split at h
  ·rw[Ba]at h
   show some (_,List.map (CV.BW (low n N)) _)=_
   rw[CU (f:=CV.BW (low n N)) fun i hi=>Jt (h i hi)]
  ·rfl
 ·congr 1
  split at h
  ·show some (_,low n N _)=_
   rw[CN h]
  ·rfl
 ·congr 1
  rw[Ba]at h
  refine CU fun i hi=>?_
  show (i.1,i.2.BW (low n N))=i
  rw[TB (h i hi)]
end
def Part (σ σ':St):Prop:=
 (∀t,Ay σ'.slots t= .u∨Ay σ'.slots t=Ay σ.slots t)∧(∀i o,Ag σ'.heap i=some o→Ag σ.heap i=some o)∧
 (∀t,Xs σ'.next (Ay σ'.slots t)=true)∧(∀i o,Ag σ'.heap i=some o→KE σ'.next i=true∧VD σ'.next o=true)
theorem SN {σ σ':St}(h:Part σ σ'):CG σ σ':=by
 obtain⟨hs,hh,hb,ho⟩:=h
 rintro C a w ⟨g,R⟩
 let N:=max σ.next σ'.next
 let r:=low σ'.next N
 let g':Ac:=fun i=>g (r i)
 have hN:=R.free N (Nat.le_max_left _ _)
 have hz:∀b o,zone g' (Ag σ'.heap) b o→zone g (Ag σ.heap) b o:=by
  rintro b o ⟨i,ob,hi,h1⟩
  refine⟨i,ob,hh i ob hi,?_⟩
  have:g' i=g i:=by show g (low _ _ i)=g i;rw[CN (ho i ob hi).1]
  rw[←this];exact h1
 have hzz:∀b o,BN (zone g' (Ag σ'.heap)) C.X b o→BN (zone g (Ag σ.heap)) C.X b o:=fun b o hx=>hx.imp (hz b o) id
 have ht:∀i n sz e,Ag σ'.heap i=some (.tok n sz e)→Ag σ.heap (r i)=some (.tok n sz e):=by
  intro i n sz e hi
  rw[show r i=i from CN (ho i _ hi).1]
  exact hh i _ hi
 have hw:∀i,isLive (Ag σ'.heap i)=true→isLive (Ag σ.heap (r i))=true:=by
  intro i hi
  cases hc:Ag σ'.heap i with
  | none=>rw[hc]at hi;cases hi
  | some o=>
   rw[show r i=i from CN (ho i _ hc).1,hh i _ hc,←hc]
   exact hi
 refine⟨g',R.size,R.defers,fun t=>?_,⟨fun i o hi=>?_,fun i j oi oj b hi hj bi bj=>?_,fun i oi b o hi bi=>?_⟩,R.frame,fun j=>R.ext j,fun j ob b o hj hz'=>?_,R.xs,fun n hn=>⟨?_,?_⟩⟩
 ·rcases hs t with e | e
  ·rw[e];trivial
  ·have:=R.slots t
   rw[←e,←TB (N:=N) (hb t)]at this
   exact BG.pull (r:=r) hzz (fun _=>rfl) ht hw this
 ·have h1:=R.heap.objs i o (hh i o hi)
  rw[←VE (N:=N) (ho i o hi).2]at h1
  have:=Bd.pull (r:=r) (g':=g') hzz (fun _=>rfl) ht hw h1
  rw[show g' i=g i from by show g (low _ _ i)=g i;rw[CN (ho i o hi).1]]
  exact this
 ·have e1:g' i=g i:=by show g (low _ _ i)=g i;rw[CN (ho i oi hi).1]
  have e2:g' j=g j:=by show g (low _ _ j)=g j;rw[CN (ho j oj hj).1]
  rw[e1]at bi
  rw[e2]at bj
  exact R.heap.sep i j oi oj b (hh i oi hi) (hh j oj hj) bi bj
 ·have e1:g' i=g i:=by show g (low _ _ i)=g i;rw[CN (ho i oi hi).1]
  rw[e1]at bi
  exact R.heap.apart i oi b o (hh i oi hi) bi
 ·have e1:g' j=g j:=by show g (low _ _ _)=_;rw[CN (ho _ ob hj).1]
  rw[e1]at hz'
  exact R.within j ob b o (hh _ ob hj) hz'
 ·have:¬n<σ'.next:=by omega
  show g (low _ _ (.loc n))=undef
  simp only[low,if_neg this]
  exact hN.1
 ·cases hc:Ag σ'.heap (.loc n)with
  | none=>rfl
  | some o=>
   have:=(ho _ o hc).1
   simp[KE]at this
   omega
def Ig (l:List (Nat×AV)):List Nat→List (Nat×AV)
 | []=>[]
 | k::ks=>(k,Ay l k)::Ig l ks
def NK (l:List (Id×AQ)):List Id→Option (List (Id×AQ))
 | []=>some []
 | i::is=>match Ag l i with
  | some o=>match NK l is with
   | some r=>some ((i,o)::r)
   | none=>none
  | none=>none
def keep (ks:List Nat) (is:List Id) (n:Nat) (σ:St) (K:St→Prop):Prop:=
 match NK σ.heap is with
 | none=>False
 | some hp=>Bq (Ci (fun x=>Xs n x.2) (Ig σ.slots ks))<| Bq (Ci (fun x:Id×AQ=>match KE n x.1 with | true=>VD n x.2 | false=>false) hp)<|
   K ⟨Ig σ.slots ks,hp,n⟩
theorem NL {l:List (Nat×AV)}{ks:List Nat}(t:Nat):Ay (Ig l ks) t= .u∨Ay (Ig l ks) t=Ay l t:=by
 induction ks with
 | nil=>exact .inl rfl
 | cons k ks ih=>
  show Ay ((k,Ay l k)::Ig l ks) t=_∨Ay ((k,Ay l k)::Ig l ks) t=_
  rw[Ca]
  simp only[]
  split
  ·subst t;exact .inr rfl
  ·exact ih
theorem PK {p:AV→Bool}(hu:p .u=true) {l:List (Nat×AV)}(h:Ci (fun x=>p x.2) l=true) (t:Nat):p (Ay l t)=true:=by
 induction l with
 | nil=>exact hu
 | cons x l ih=>
  obtain⟨k,v⟩:=x
  rw[Ba]at h
  rw[Ca]
  simp only[]
  split
  ·exact h (k,v) (by simp)
  ·exact ih (Ba.2 fun x hx=>h x (by simp[hx]))
theorem HG {l:List (Id×AQ)}:∀{is:List Id}{r:List (Id×AQ)},NK l is=some r→∀i o,Ag r i=some o→Ag l i=some o∧(i,o)∈r
 | [],r,h,i,o,hi=>by simp[NK]at h;subst h;simp[Ag]at hi
 | j::is,r,h,i,o,hi=>by
  unfold NK at h
  split at h
  ·rename_i o' ho
   split at h
   ·rename_i r' hr
    simp at h
    subst h
    rw[Cb]at hi
    simp only[AX]at hi
    split at hi
    ·simp at hi
     subst hi
     subst i
     exact⟨ho,by simp⟩
    ·obtain⟨h1,h2⟩:=HG hr i o hi
     exact⟨h1,by simp[h2]⟩
   ·simp at h
  ·simp at h
theorem E6 {ks:List Nat}{is:List Id}{n:Nat}{σ:St}{K:St→Prop}(h:keep ks is n σ K):∃σ',CG σ σ'∧K σ':=by
 unfold keep at h
 split at h
 ·exact h.elim
 ·rename_i hp hhp
  obtain⟨h1,h⟩:=AR.1 h
  obtain⟨h2,h⟩:=AR.1 h
  refine⟨_,SN ⟨fun t=>NL t,fun i o hi=>(HG hhp i o hi).1,fun t=>PK rfl h1 t,fun i o hi=>?_⟩,h⟩
  have:=Ba.1 h2 _ (HG hhp i o hi).2
  simp only[]at this
  split at this
  ·rename_i hb;exact⟨hb,this⟩
  ·simp at this
end Go.AM
namespace Go.AM
open Go Go.RowKit
def TC:CV→Value→Bool
 | .d (.int k n),.int k' m=>decide (k=k')&&decide (n=m)
 | .d (.bool b),.bool b'=>b==b'
 | .d (.str s),.string s'=>s.data.toList.isEmpty&&s'.data.toList.isEmpty
 | .nils _ _,.slice none 0 0=>true
 | .nilp,.pointer none=>true
 | .nilf,.nilFunc=>true
 | .nilm,.map none=>true
 | _,_=>false
def NM:List CV→List Value→Bool
 | [],[]=>true
 | c::cs,v::vs=>TC c v&&NM cs vs
 | _,_=>false
def Good (P:Program) (t:TypeId) (x:TI):Prop:=
 P.underlying t=some x.desc∧(P.info? t).map (fun i=>(i.size,i.bytes,i.zero))=some (x.size,x.bytes,some x.zero)∧
 (NM x.zc x.zero.cells.toList&&(Nat.beq x.zc.length x.size&&(Ax x.desc || Nat.beq x.size 1)))=true
def Bs (P:Program):List (Nat×TI)→Prop
 | []=>True
 | p::l=>Good P p.1 p.2∧Bs P l
def E7 (P:Program):List (List (Nat×TI))→Prop
 | []=>True
 | p::l=>Bs P p∧E7 P l
def assoc:List (Nat×TI)→Nat→Option TI
 | [],_=>none
 | (k,x)::l,t=>match Nat.beq k t with
  | true=>some x
  | false=>assoc l t
def nth {α:Type}:List (List α)→Nat→List α
 | [],_=>[]
 | x::l,n=>match n with
  | 0=>x
  | n+1=>nth l n
def RO (l:List (List (Nat×TI))):Types:=fun t=>assoc (nth l (t / 16)) t
theorem TD {c:CV}{v:Value}(h:TC c v=true):P4 c v:=by
 unfold TC at h
 split at h
 ·simp at h;exact h
 ·simpa [P4] using h
 ·simp only[Bool.and_eq_true,List.isEmpty_iff]at h
  have e:∀s:ByteArray,s.data.toList=[]→s=ByteArray.empty:=by
   intro s hs
   apply ByteArray.ext
   apply Array.ext'
   rw[hs];rfl
  rw[e _ h.1,e _ h.2];rfl
 ·trivial
 ·trivial
 ·trivial
 ·trivial
 ·simp at h
theorem PL:∀{cs:List CV}{vs:List Value},NM cs vs=true→vs.length=cs.length∧∀(j:Nat) c u,cs[j]?=some c→vs[j]?=some u→P4 c u
 | [],[],_=>⟨rfl,by simp⟩
 | c::cs,v::vs,h=>by
  simp only[NM,Bool.and_eq_true]at h
  obtain⟨h1,h2⟩:=PL h.2
  refine⟨by simp[h1],fun j c' u hc hu=>?_⟩
  match j with
  | 0=>simp at hc hu;subst hc;subst hu;exact TD h.1
  | j+1=>simp at hc hu;exact h2 j c' u hc hu
 | [],_::_,h=>by simp[NM]at h
 | _::_,[],h=>by simp[NM]at h
theorem LS {P:Program}:∀{l:List (Nat×TI)}{t:Nat}{x:TI},Bs P l→assoc l t=some x→Good P t x
 | [],t,x,_,h=>by simp[assoc]at h
 | (k,y)::l,t,x,hg,h=>by
  unfold assoc at h
  split at h
  ·rename_i hb
   simp at h
   subst h
   have:=Nat.eq_of_beq_eq_true hb
   subst this
   exact hg.1
  ·exact LS hg.2 h
theorem PM {P:Program}:∀{l:List (List (Nat×TI))}{n:Nat},E7 P l→Bs P (nth l n)
 | [],_,_=>trivial
 | x::l,0,h=>h.1
 | x::l,n+1,h=>PM (l:=l) (n:=n) h.2
theorem LU {P:Program}{l:List (List (Nat×TI))}(h:E7 P l) {t:Nat}{x:TI}(hx:RO l t=some x):Good P t x:=LS (PM h) hx
theorem TE {P:Program}{l:List (List (Nat×TI))}(h:E7 P l):BV P (RO l):=by
 intro t x hx
 obtain⟨h1,h2,h3⟩:=LU h hx
 refine⟨h1,?_⟩
 simp only[Option.map_eq_some_iff]at h2
 obtain⟨i,hi,he⟩:=h2
 simp only[Prod.mk.injEq]at he
 simp only[Bool.and_eq_true,Nat.beq_eq]at h3
 obtain⟨z1,z2⟩:=PL h3.1
 refine⟨i,hi,he.1,he.2.1,he.2.2,?_,h3.2.1,fun j c u hc hu=>z2 j c u hc (by simpa using hu)⟩
 rw[←h3.2.1,←z1]
 simp
theorem SO {P:Program}{l:List (List (Nat×TI))}(h:E7 P l):Bo (RO l):=by
 intro t x hx hr
 obtain⟨_,_,h3⟩:=LU h hx
 simp only[Bool.and_eq_true,Bool.or_eq_true,Nat.beq_eq]at h3
 rcases h3.2.2 with h4 | h4
 ·rw[hr]at h4;simp at h4
 ·exact h4
end Go.AM
namespace Go.AM
open Go Go.RowKit
def GP (acc:List Nat):List Edge→Nat
 | []=>0
 | e::r=>match Region.binds .any e with
  | true=>Nat.lor (Nat.lor (2 ^ e.on) (acc.getD e.on 0)) (GP acc r)
  | false=>GP acc r
def TF:List Oper→List Nat→List Nat
 | [],acc=>acc
 | o::r,acc=>TF r (acc++[GP acc o.after.toList])
inductive E8 (ops:List Oper):Nat→Nat→Prop where
 | edge {i j:Nat} {o:Oper} {e:Edge} (hj:ops[j]?=some o) (he:e∈o.after.toList) (hb:Region.binds .any e=true) (hi:e.on=i):E8 ops i j
 | trans {i j k:Nat} (h1:E8 ops i j) (h2:E8 ops j k):E8 ops i k
theorem LV {ops:List Oper}{acc:List Nat}{j:Nat}{o:Oper}(hj:ops[j]?=some o) (hacc:∀k i,(acc.getD k 0).testBit i=true→E8 ops i k):
  ∀(l:List Edge),(∀e∈l,e∈o.after.toList)→∀i,(GP acc l).testBit i=true→E8 ops i j
 | [],_,i,h=>by simp[GP]at h
 | e::r,hl,i,h=>by
  have ih:=LV hj hacc r (fun e he=>hl e (List.mem_cons_of_mem _ he)) i
  unfold GP at h
  split at h
  ·rename_i hb
   rw[show ∀a b:Nat,Nat.lor a b=a ||| b from fun _ _=>rfl,show ∀a b:Nat,Nat.lor a b=a ||| b from fun _ _=>rfl]at h
   simp only[Nat.testBit_or,Bool.or_eq_true,Nat.testBit_two_pow,decide_eq_true_eq]at h
   rcases h with (h | h) | h
   ·exact .edge hj (hl e (by simp)) hb h
   ·exact .trans (hacc _ i h) (.edge hj (hl e (by simp)) hb rfl)
   ·exact ih h
  ·exact ih h
theorem NN {ops:List Oper}:∀(l:List Oper) (acc:List Nat),ops.drop acc.length=l→(∀k i,(acc.getD k 0).testBit i=true→E8 ops i k)→
  ∀k i,((TF l acc).getD k 0).testBit i=true→E8 ops i k
 | [],acc,_,hacc,k,i,h=>hacc k i h
 | o::r,acc,hl,hacc,k,i,h=>by
  have hj:ops[acc.length]?=some o:=by
   have:=congrArg (fun l=>l[0]?) hl
   simpa using this
  refine NN r (acc++[GP acc o.after.toList]) ?_ ?_ k i h
  ·have:=congrArg List.tail hl
   simpa using this
  ·intro k i hk
   by_cases h1:k<acc.length
   ·refine hacc k i ?_
    simpa [List.getD,List.getElem?_append_left h1] using hk
   ·by_cases h2:k=acc.length
    ·subst h2
     refine LV hj hacc o.after.toList (fun e he=>he) i ?_
     simpa [List.getD] using hk
    ·have:(acc++[GP acc o.after.toList])[k]?=none:=by simp;omega
     simp[List.getD,this]at hk
def tmpsOf:List Operand→List Nat
 | []=>[]
 | .tmp t::r=>t::tmpsOf r
 | _::r=>tmpsOf r
def GQ (ops:Array Oper) (o:Oper):List Nat:=
 tmpsOf o.op.operands.toList++(match o.guard with
  | some (j,_)=>((ops[j]?).bind (·.dst)).toList
  | none=>[])
def meet (a b:List Nat):Bool:=a.any fun x=>b.any fun y=>Nat.beq x y
def PN (a b:List Id):Bool:=a.any fun x=>b.any fun y=>Id.beq x y
def EE (ops:Array Oper) (a b:Oper):Bool:=
 meet a.dst.toList (GQ ops b) || meet a.dst.toList b.dst.toList || meet (GQ ops a) b.dst.toList
abbrev Fp:=List Id×List Id
def H8 (a b:Fp):Bool:=PN a.2 b.1 || PN a.2 b.2 || PN a.1 b.2
def RQ (ops:Array Oper) (ms:List Nat) (l:List (Nat×Oper×Fp)):Bool:=
 l.all fun x=>l.all fun y=>!(Nat.blt x.1 y.1) || !(EE ops x.2.1 y.2.1 || H8 x.2.2 y.2.2) || (ms.getD y.1 0).testBit x.1
def N1:List Oper→Nat→Bool
 | [],_=>true
 | o::r,i=>o.after.toList.all (fun e=>!(Region.binds .any e) || Nat.blt e.on i)&&N1 r (i+1)
def number:List Oper→List Fp→Nat→List (Nat×Oper×Fp)
 | o::r,f::fs,i=>(i,o,f)::number r fs (i+1)
 | _,_,_=>[]
def V8 (ops:Array Oper) (fps:List Fp):Bool:=
 Nat.beq fps.length ops.size&&(N1 ops.toList 0&&RQ ops (TF ops.toList []) (number ops.toList fps 0))
def HH (M:BS) (ti:Types) (nt:Nat) (ops:Array Oper) (base:Nat):List Oper→Nat→St→List Fp→(St→List Fp→Prop)→Prop
 | [],i,σ,fps,K=>K ⟨σ.slots,σ.heap,base+32*i⟩ fps
 | o::r,i,σ,fps,K=>guarded ops o σ
   (fun σ1=>IZ o<| KB nt o.dst<| Fk M ti o (base+32*i) (Ay σ1.slots) (Ag σ1.heap) fun out=>
    HH M ti nt ops base r (i+1) ⟨F1 σ1.slots o.dst out.val,F0 σ1.heap out.wr,σ1.next⟩ (fps++[(out.rd,out.wr.map (·.1))]) K)
   (fun σ1=>KB nt o.dst (HH M ti nt ops base r (i+1) ⟨F1 σ1.slots o.dst (.t []),σ1.heap,σ1.next⟩ (fps++[([],[])]) K))
def CH (ti:Types) (M:BS) (nt:Nat) (ops:Array Oper) (σ:St) (K:St→Prop):Prop:=
 HH M ti nt ops σ.next ops.toList 0 σ [] fun σ' fps=>M.lock (fun _=>V8 ops fps=true)∧K σ'
structure Kg where
 o:Oper
 run:Bool
 val:AV
 rd:List Id
 wr:List (Id×AQ)
def DR (ops:Array Oper) (e:Kg) (s:Af):Prop:=
 match e.o.guard with
 | none=>e.run=true
 | some (j,want)=>∃d,(ops[j]?).bind (·.dst)=some d∧(s d= .v (.d (.bool (if e.run then want else !want)))∨(e.run=false∧s d= .t []))
def PO (C:Cx) (ops:Array Oper) (base:Nat):List Kg→Nat→Af→Heap→Prop
 | [],_,_,_=>True
 | e::r,i,s,h=>ops[i]?=some e.o∧(∀d,e.o.dst=some d→d<C.nt)∧DR ops e s∧(e.run=true→(∀c,e.o.op≠ .defer c)∧Bm C e.o (base+32*i) s h ⟨e.val,e.rd,e.wr⟩)∧
   (e.run=false→e.val= .t []∧e.wr=[]∧e.rd=[])∧PO C ops base r (i+1) (DY s e.o.dst e.val) (BP h e.wr)
def QW:List Kg→Af→Af
 | [],s=>s
 | e::r,s=>QW r (DY s e.o.dst e.val)
def QX:List Kg→Heap→Heap
 | [],h=>h
 | e::r,h=>QX r (BP h e.wr)
section
variable {C:Cx}{ti:Types}
theorem FM (hti:BV C.P ti) (h1:Bo ti) {ops:Array Oper}{base:Nat}{K:St→List Fp→Prop}:∀(l:List Oper) (i:Nat) (σ:St) (fps:List Fp),
  ops.toList.drop i=l→HH C.M ti C.nt ops base l i σ fps K→
  ∃(es:List Kg) (σ':St),es.map (·.o)=l∧PO C ops base es i (Ay σ.slots) (Ag σ.heap)∧Ay σ'.slots=QW es (Ay σ.slots)∧Ag σ'.heap=QX es (Ag σ.heap)∧
   σ'.next=base+32*(i+l.length)∧K σ' (fps++es.map fun e=>(e.rd,e.wr.map (·.1)))
 | [],i,σ,fps,_,hk=>⟨[],⟨σ.slots,σ.heap,base+32*i⟩,rfl,trivial,rfl,rfl,by simp,by simpa using (show K ⟨σ.slots,σ.heap,base+32*i⟩ fps from hk)⟩
 | o::r,i,σ,fps,hl,hk=>by
  have hi:ops[i]?=some o:=by
   have:=congrArg (fun l=>l[0]?) hl
   simpa using this
  have hr:ops.toList.drop (i+1)=r:=by
   have:=congrArg List.tail hl
   simpa using this
  have run:∀(g:DR ops ⟨o,true,.u,[],[]⟩ (Ay σ.slots)),(IZ o<| KB C.nt o.dst<| Fk C.M ti o (base+32*i) (Ay σ.slots) (Ag σ.heap) fun out=>
    HH C.M ti C.nt ops base r (i+1) ⟨F1 σ.slots o.dst out.val,F0 σ.heap out.wr,σ.next⟩ (fps++[(out.rd,out.wr.map (·.1))]) K)→
    ∃(es:List Kg) (σ':St),es.map (·.o)=o::r∧PO C ops base es i (Ay σ.slots) (Ag σ.heap)∧Ay σ'.slots=QW es (Ay σ.slots)∧Ag σ'.heap=QX es (Ag σ.heap)∧
     σ'.next=base+32*(i+(o::r).length)∧K σ' (fps++es.map fun e=>(e.rd,e.wr.map (·.1))):=by
   intro g hk
   obtain⟨hst,hnd,hk⟩:=KD hk
   obtain⟨hd,hk⟩:=HF.1 hk
   obtain⟨out,hk,hok⟩:=GN hti h1 hst.1 hst.2 hk
   obtain⟨es,σ',e1,e2,e3,e4,e5,e6⟩:=FM hti h1 r (i+1) _ _ hr hk
   rw[DK]at e2 e3
   rw[D6]at e2 e4
   refine⟨⟨o,true,out.val,out.rd,out.wr⟩::es,σ',by simp[e1],⟨hi,hd,g,fun _=>⟨hnd,hok⟩,fun e=>by simp at e,e2⟩,e3,e4,by rw[e5];simp;omega,?_⟩
   simpa using e6
  have skip:∀(g:DR ops ⟨o,false,.t [],[],[]⟩ (Ay σ.slots)),(KB C.nt o.dst (HH C.M ti C.nt ops base r (i+1) ⟨F1 σ.slots o.dst (.t []),σ.heap,σ.next⟩ (fps++[([],[])]) K))→
    ∃(es:List Kg) (σ':St),es.map (·.o)=o::r∧PO C ops base es i (Ay σ.slots) (Ag σ.heap)∧Ay σ'.slots=QW es (Ay σ.slots)∧Ag σ'.heap=QX es (Ag σ.heap)∧
     σ'.next=base+32*(i+(o::r).length)∧K σ' (fps++es.map fun e=>(e.rd,e.wr.map (·.1))):=by
   intro g hk
   obtain⟨hd,hk⟩:=HF.1 hk
   obtain⟨es,σ',e1,e2,e3,e4,e5,e6⟩:=FM hti h1 r (i+1) _ _ hr hk
   rw[DK]at e2 e3
   refine⟨⟨o,false,.t [],[],[]⟩::es,σ',by simp[e1],⟨hi,hd,g,fun e=>by simp at e,fun _=>⟨rfl,rfl,rfl⟩,e2⟩,e3,e4,by rw[e5];simp;omega,?_⟩
   simpa using e6
  have hk':guarded ops o σ _ _:=hk
  unfold guarded at hk'
  split at hk'
  ·rename_i hg
   exact run (by simp[DR,hg]) hk'
  ·rename_i j want hg
   split at hk'
   ·exact hk'.elim
   ·rename_i d hd
    split at hk'
    ·rename_i c hc
     cases want<;>cases c
     ·exact run (by simp only[DR,hg];exact⟨d,hd,.inl hc⟩) hk'
     ·exact skip (by simp only[DR,hg];exact⟨d,hd,.inl hc⟩) hk'
     ·exact skip (by simp only[DR,hg];exact⟨d,hd,.inl hc⟩) hk'
     ·exact run (by simp only[DR,hg];exact⟨d,hd,.inl hc⟩) hk'
    ·rename_i hc
     exact skip (by simp only[DR,hg];exact⟨d,hd,.inr ⟨trivial,hc⟩⟩) hk'
    ·exact hk'.elim
def DS (S:Nat→Bool):List Kg→Nat→Af→Af
 | [],_,s=>s
 | e::r,i,s=>DS S r (i+1) (if S i then DY s e.o.dst e.val else s)
def B8 (S:Nat→Bool):List Kg→Nat→Heap→Heap
 | [],_,h=>h
 | e::r,i,h=>B8 S r (i+1) (if S i then BP h e.wr else h)
theorem VF {s s':Af}{d:Option Tmp}{v:AV}{t:Nat}(h:d≠some t→s t=s' t):DY s d v t=DY s' d v t:=by
 cases d with
 | none=>exact h (by simp)
 | some d=>
  simp only[DY]
  by_cases ht:t=d
  ·simp[ht]
  ·simp only[if_neg ht];exact h (by simp;exact fun e=>ht e.symm)
theorem Ih {s:Af}{d:Option Tmp}{v:AV}{t:Nat}(h:d≠some t):DY s d v t=s t:=by
 cases d with
 | none=>rfl
 | some d=>
  simp only[DY]
  rw[if_neg]
  exact fun e=>h (by rw[e])
theorem RR {h h':Heap}{i:Id}:∀{wr:List (Id×AQ)},(i∉wr.map (·.1)→h i=h' i)→BP h wr i=BP h' wr i:=by
 intro wr
 induction wr generalizing h h' with
 | nil=>intro hh;exact hh (by simp)
 | cons x wr ih=>
  intro hh
  refine ih fun hn=>?_
  simp only[AX]
  by_cases hi:i=x.1
  ·simp[hi]
  ·simp only[if_neg hi]
   exact hh (by simp[hi];simpa using hn)
theorem FO {S S':Nat→Bool}{t:Nat}:∀(es:List Kg) (i:Nat) (s s':Af),s t=s' t→(∀k e,es[k]?=some e→e.o.dst=some t→S (i+k)=S' (i+k))→
  DS S es i s t=DS S' es i s' t
 | [],i,s,s',h,_=>h
 | e::r,i,s,s',h,hw=>by
  refine FO r (i+1) _ _ ?_ (fun k e' hk hd=>by have:=hw (k+1) e' (by simpa using hk) hd;rw[show i+1+k=i+(k+1)from by omega];exact this)
  by_cases hd:e.o.dst=some t
  ·have:=hw 0 e rfl hd
   simp only[Nat.add_zero]at this
   rw[this]
   cases S' i
   ·exact h
   ·exact VF (fun _=>h)
  ·cases S i<;>cases S' i<;>simp[Ih hd,h]
theorem Ea {S S':Nat→Bool}{x:Id}:∀(es:List Kg) (i:Nat) (h h':Heap),h x=h' x→(∀k e,es[k]?=some e→x∈e.wr.map (·.1)→S (i+k)=S' (i+k))→
  B8 S es i h x=B8 S' es i h' x
 | [],i,h,h',hh,_=>hh
 | e::r,i,h,h',hh,hw=>by
  refine Ea r (i+1) _ _ ?_ (fun k e' hk hd=>by have:=hw (k+1) e' (by simpa using hk) hd;rw[show i+1+k=i+(k+1)from by omega];exact this)
  by_cases hd:x∈e.wr.map (·.1)
  ·have:=hw 0 e rfl hd
   simp only[Nat.add_zero]at this
   rw[this]
   cases S' i
   ·exact hh
   ·exact RR (fun _=>hh)
  ·have e1:BP h e.wr x=h x:=DC hd
   have e2:BP h' e.wr x=h' x:=DC hd
   cases S i<;>cases S' i<;>simp[e1,e2,hh]
theorem PQ {S S':Nat→Bool}{t:Nat}{n:Nat}{en:Kg}:∀(es:List Kg) (i:Nat) (s:Af),es[n]?=some en→S (i+n)=false→S' (i+n)=true→(∀k,k≠i+n→S' k=S k)→
  (en.o.dst=some t→∀k e,es[k]?=some e→e.o.dst=some t→n<k→S (i+k)=false)→DS S' es i s t=DY (DS S es i s) en.o.dst en.val t
 | [],i,s,hn,_,_,_,_=>by simp at hn
 | e::r,i,s,hn,h0,h1,hS,hb=>by
  cases n with
  | zero=>
   simp at hn
   subst hn
   simp only[Nat.add_zero]at h0 h1
   show DS S' r (i+1) (if S' i then DY s e.o.dst e.val else s) t=DY (DS S r (i+1) (if S i then DY s e.o.dst e.val else s)) e.o.dst e.val t
   rw[h0,h1]
   simp only[if_true,Bool.false_eq_true,if_false]
   have same:∀s',DS S' r (i+1) s' t=DS S r (i+1) s' t:=fun s'=>FO r (i+1) s' s' rfl (fun k e' _ _=>hS _ (by omega))
   rw[same]
   by_cases hd:e.o.dst=some t
   ·have none:∀s':Af,DS S r (i+1) s' t=s' t:=by
     intro s'
     have z:∀(l:List Kg) (m:Nat) (s':Af),(∀k e,l[k]?=some e→e.o.dst=some t→S (m+k)=false)→DS S l m s' t=s' t:=by
      intro l
      induction l with
      | nil=>intro m s' _;rfl
      | cons e l ih=>
       intro m s' hz
       show DS S l (m+1) (if S m then DY s' e.o.dst e.val else s') t=_
       rw[ih (m+1) _ (fun k e' hk hd=>by have:=hz (k+1) e' (by simpa using hk) hd;rw[show m+1+k=m+(k+1)from by omega];exact this)]
       by_cases hd:e.o.dst=some t
       ·have:=hz 0 e rfl hd
        simp only[Nat.add_zero]at this
        simp[this]
       ·split
        ·exact Ih hd
        ·rfl
     exact z r (i+1) s' (fun k e' hk hd'=>by
      have:=hb hd (k+1) e' (by simpa using hk) hd' (by omega)
      rw[show i+1+k=i+(k+1)from by omega];exact this)
    rw[none,hd]
    simp[DY]
   ·rw[Ih hd]
    exact FO r (i+1) _ _ (Ih hd) (fun _ _ _ _=>rfl)
  | succ n=>
   have e1:S' i=S i:=hS i (by omega)
   show DS S' r (i+1) (if S' i then DY s e.o.dst e.val else s) t=_
   rw[e1]
   refine PQ r (i+1) _ (by simpa using hn) (by rw[show i+1+n=i+(n+1)from by omega];exact h0) (by rw[show i+1+n=i+(n+1)from by omega];exact h1)
    (fun k hk=>hS k (by omega)) (fun hd k e' hk hd' hlt=>?_)
   have:=hb hd (k+1) e' (by simpa using hk) hd' (by omega)
   rw[show i+1+k=i+(k+1)from by omega];exact this
theorem NP {S S':Nat→Bool}{x:Id}{n:Nat}{en:Kg}:∀(es:List Kg) (i:Nat) (s:Heap),es[n]?=some en→S (i+n)=false→S' (i+n)=true→(∀k,k≠i+n→S' k=S k)→
  (x∈en.wr.map (·.1)→∀k e,es[k]?=some e→x∈e.wr.map (·.1)→n<k→S (i+k)=false)→B8 S' es i s x=BP (B8 S es i s) en.wr x
 | [],i,s,hn,_,_,_,_=>by simp at hn
 | e::r,i,s,hn,h0,h1,hS,hb=>by
  cases n with
  | zero=>
   simp at hn
   subst hn
   simp only[Nat.add_zero]at h0 h1
   show B8 S' r (i+1) (if S' i then BP s e.wr else s) x=BP (B8 S r (i+1) (if S i then BP s e.wr else s)) e.wr x
   rw[h0,h1]
   simp only[if_true,Bool.false_eq_true,if_false]
   have same:∀s',B8 S' r (i+1) s' x=B8 S r (i+1) s' x:=fun s'=>Ea r (i+1) s' s' rfl (fun k e' _ _=>hS _ (by omega))
   rw[same]
   by_cases hd:x∈e.wr.map (·.1)
   ·have none:∀s':Heap,B8 S r (i+1) s' x=s' x:=by
     intro s'
     have z:∀(l:List Kg) (m:Nat) (s':Heap),(∀k e,l[k]?=some e→x∈e.wr.map (·.1)→S (m+k)=false)→B8 S l m s' x=s' x:=by
      intro l
      induction l with
      | nil=>intro m s' _;rfl
      | cons e l ih=>
       intro m s' hz
       show B8 S l (m+1) (if S m then BP s' e.wr else s') x=_
       rw[ih (m+1) _ (fun k e' hk hd=>by have:=hz (k+1) e' (by simpa using hk) hd;rw[show m+1+k=m+(k+1)from by omega];exact this)]
       by_cases hd:x∈e.wr.map (·.1)
       ·have:=hz 0 e rfl hd
        simp only[Nat.add_zero]at this
        simp[this]
       ·split
        ·exact DC hd
        ·rfl
     exact z r (i+1) s' (fun k e' hk hd'=>by
      have:=hb hd (k+1) e' (by simpa using hk) hd' (by omega)
      rw[show i+1+k=i+(k+1)from by omega];exact this)
    rw[none]
    exact RR (fun hn=>absurd hd hn)
   ·rw[DC hd]
    exact Ea r (i+1) _ _ (DC hd) (fun _ _ _ _=>rfl)
  | succ n=>
   have e1:S' i=S i:=hS i (by omega)
   show B8 S' r (i+1) (if S' i then BP s e.wr else s) x=_
   rw[e1]
   refine NP r (i+1) _ (by simpa using hn) (by rw[show i+1+n=i+(n+1)from by omega];exact h0) (by rw[show i+1+n=i+(n+1)from by omega];exact h1)
    (fun k hk=>hS k (by omega)) (fun hd k e' hk hd' hlt=>?_)
   have:=hb hd (k+1) e' (by simpa using hk) hd' (by omega)
   rw[show i+1+k=i+(k+1)from by omega];exact this
end
end Go.AM
namespace Go.AM
open Go Go.RowKit
section
variable {C:Cx}{ti:Types}
theorem Ju {S:Nat→Bool}:∀(es:List Kg) (i:Nat) (s:Af),(∀k,i≤k→S k=false)→DS S es i s=s
 | [],_,_,_=>rfl
 | e::r,i,s,h=>by
  show DS S r (i+1) (if S i then _ else s)=s
  rw[h i (Nat.le_refl _)]
  exact Ju r (i+1) s (fun k hk=>h k (by omega))
theorem H9 {S:Nat→Bool}:∀(es:List Kg) (i:Nat) (s:Heap),(∀k,i≤k→S k=false)→B8 S es i s=s
 | [],_,_,_=>rfl
 | e::r,i,s,h=>by
  show B8 S r (i+1) (if S i then _ else s)=s
  rw[h i (Nat.le_refl _)]
  exact H9 r (i+1) s (fun k hk=>h k (by omega))
theorem PR {S:Nat→Bool}:∀(es:List Kg) (i:Nat) (s:Af),(∀k,k<es.length→S (i+k)=true)→DS S es i s=QW es s
 | [],_,_,_=>rfl
 | e::r,i,s,h=>by
  show DS S r (i+1) (if S i then _ else s)=QW r _
  rw[show S i=true from h 0 (by simp)]
  exact PR r (i+1) _ (fun k hk=>by have:=h (k+1) (by simp;omega);rw[show i+1+k=i+(k+1)from by omega];exact this)
theorem NQ {S:Nat→Bool}:∀(es:List Kg) (i:Nat) (s:Heap),(∀k,k<es.length→S (i+k)=true)→B8 S es i s=QX es s
 | [],_,_,_=>rfl
 | e::r,i,s,h=>by
  show B8 S r (i+1) (if S i then _ else s)=QX r _
  rw[show S i=true from h 0 (by simp)]
  exact NQ r (i+1) _ (fun k hk=>by have:=h (k+1) (by simp;omega);rw[show i+1+k=i+(k+1)from by omega];exact this)
def Xt (C:Cx) (ops:Array Oper) (base:Nat) (e:Kg) (i:Nat) (s:Af) (h:Heap):Prop:=
 ops[i]?=some e.o∧(∀d,e.o.dst=some d→d<C.nt)∧DR ops e s∧(e.run=true→(∀c,e.o.op≠ .defer c)∧Bm C e.o (base+32*i) s h ⟨e.val,e.rd,e.wr⟩)∧
   (e.run=false→e.val= .t []∧e.wr=[]∧e.rd=[])
theorem Xu {ops:Array Oper}{base:Nat}(es:List Kg):∀(m n:Nat) (s:Af) (h:Heap) (e:Kg),PO C ops base es m s h→es[n]?=some e→
  Xt C ops base e (m+n) (DS (fun k=>decide (k<m+n)) es m s) (B8 (fun k=>decide (k<m+n)) es m h):=by
 induction es with
 | nil=>intro m n s h e _ hn;simp at hn
 | cons x r ih=>
  intro m n s h e hl hn
  cases n with
  | zero=>
   simp at hn
   subst hn
   have e1:DS (fun k=>decide (k<m+0)) (x::r) m s=s:=Ju _ _ _ (fun k hk=>by simp;omega)
   have e2:B8 (fun k=>decide (k<m+0)) (x::r) m h=h:=H9 _ _ _ (fun k hk=>by simp;omega)
   rw[e1,e2]
   exact⟨hl.1,hl.2.1,hl.2.2.1,hl.2.2.2.1,hl.2.2.2.2.1⟩
  | succ n=>
   have:=ih (m+1) n _ _ e hl.2.2.2.2.2 (by simpa using hn)
   rw[show m+1+n=m+(n+1)from by omega]at this
   have e1:DS (fun k=>decide (k<m+(n+1))) (x::r) m s=DS (fun k=>decide (k<m+(n+1))) r (m+1) (DY s x.o.dst x.val):=by
    show DS _ r (m+1) (if decide (m<m+(n+1))then _ else _)=_
    rw[if_pos (by simp)]
   have e2:B8 (fun k=>decide (k<m+(n+1))) (x::r) m h=B8 (fun k=>decide (k<m+(n+1))) r (m+1) (BP h x.wr):=by
    show B8 _ r (m+1) (if decide (m<m+(n+1))then _ else _)=_
    rw[if_pos (by simp)]
   rw[e1,e2]
   exact this
theorem Ap.drew {F:Nat→Prop}{s:Af}{h:Heap}{g:Ac}{a:Act}{w:World}(R:Ap C F s h g a w):Ap C F s h g a {w with drawn:=w.drawn+1}:=by
 have E:IM w (BN (zone g h) C.X) g h {w with drawn:=w.drawn+1} (BN (zone g h) C.X) g h:=
  ⟨fun b o u hu hz=>⟨hu,hz⟩,fun _ _ _=>rfl,fun _ _ _=>rfl,fun _ hi=>hi,fun i n sz e _ hn=>⟨n,Nat.le_refl _,hn,fun _=>rfl⟩,fun _ hi=>hi,fun i _ hn=>⟨hn,rfl⟩⟩
 refine R.step (fun _=>False) E ⟨rfl,rfl,rfl,Nat.le_refl _,fun _ _ _=>rfl,fun _ _ _ hu _=>hu⟩ (fun _ _=>⟨rfl,rfl⟩) (fun _ _ _ _ _ _=>rfl) (fun _ _ h=>h.elim) (fun _ _ _ _ h=>h.elim)
  (fun _ _ _ _ _ h=>h.elim) (fun _ h=>h.elim) R.free
theorem filter_one {p p':Nat→Bool}{i:Nat}:∀{l:List Nat},l.Nodup→i∈l→p i=true→p' i=false→(∀k,k≠i→p' k=p k)→(l.filter p').length+1=(l.filter p).length
 | x::l,hn,hi,h1,h0,hs=>by
  have hn':=List.nodup_cons.1 hn
  by_cases hx:x=i
  ·subst hx
   have:l.filter p'=l.filter p:=List.filter_congr fun k hk=>hs k (fun e=>hn'.1 (e▸hk))
   simp[h1,h0,this]
  ·have hil:i∈l:=(List.mem_cons.1 hi).resolve_left (fun e=>hx e.symm)
   have ih:=filter_one hn'.2 hil h1 h0 hs
   have:=hs x hx
   simp only[List.filter_cons,this]
   split<;>simp[ih]
theorem LW {a b:List Nat}{x:Nat}(ha:x∈a) (hb:x∈b):meet a b=true:=by
 simp only[meet,List.any_eq_true]
 exact⟨x,ha,x,hb,by simp⟩
theorem Jv {a b:List Id}{x:Id}(ha:x∈a) (hb:x∈b):PN a b=true:=by
 simp only[PN,List.any_eq_true]
 exact⟨x,ha,x,hb,Id.beq_iff.2 rfl⟩
theorem EF {t:Nat}:∀{l:List Operand},Operand.tmp t∈l→t∈tmpsOf l
 | .tmp x::l,h=>by
  rcases List.mem_cons.1 h with h | h
  ·simp at h;subst h;simp[tmpsOf]
  ·simp[tmpsOf,EF h]
 | .const v::l,h=>by simp[tmpsOf,EF ((List.mem_cons.1 h).resolve_left (by simp))]
 | .global v::l,h=>by simp[tmpsOf,EF ((List.mem_cons.1 h).resolve_left (by simp))]
 | .func v::l,h=>by simp[tmpsOf,EF ((List.mem_cons.1 h).resolve_left (by simp))]
theorem LX (l:List Oper):∀(fs:List Fp) (i n:Nat) (o:Oper) (f:Fp),l[n]?=some o→fs[n]?=some f→(i+n,o,f)∈number l fs i:=by
 induction l with
 | nil=>intro fs i n o f h1 _;simp at h1
 | cons x l ih=>
  intro fs i n o f h1 h2
  cases fs with
  | nil=>simp at h2
  | cons y fs=>
   cases n with
   | zero=>simp at h1 h2;subst h1;subst h2;simp[number]
   | succ n=>
    simp at h1 h2
    have:=ih fs (i+1) n o f h1 h2
    rw[show i+1+n=i+(n+1)from by omega]at this
    simp[number,this]
theorem QY (l:List Oper):∀(i n:Nat) (o:Oper) (e:Edge),N1 l i=true→l[n]?=some o→e∈o.after.toList→Region.binds .any e=true→e.on<i+n:=by
 induction l with
 | nil=>intro i n o e _ h1 _ _;simp at h1
 | cons x l ih=>
  intro i n o e h h1 he hb
  simp only[N1,Bool.and_eq_true,List.all_eq_true]at h
  cases n with
  | zero=>
   simp at h1
   subst h1
   have:=h.1 e he
   simpa [hb] using this
  | succ n=>
   simp at h1
   have:=ih (i+1) n o e h.2 h1 he hb
   omega
theorem TG (hti:BV C.P ti) (h1:Bo ti) (ops:Array Oper) (σ:St) (K:St→Prop) (Q:Exit→Act→World→Prop) (a:Act) (w:World)
  (hQ:∀σ a w,K σ→B0 C σ a w→Q .normal a w) (hk:CH ti C.M C.nt ops σ K) (R:B0 C σ a w):
  wpAnyIn (BZ C.ro) 0 C.P .any ops Q ops.size (Array.replicate ops.size false) a {w with drawn:=w.drawn+1}:=by
 obtain⟨es,σ',e1,hlex,e3,e4,e5,hlock,hK⟩:=FM hti h1 ops.toList 0 σ [] rfl hk
 have hB:=(C.M.lock_iff _).1 hlock
 simp only[List.nil_append]at hB
 simp only[V8,Bool.and_eq_true,Nat.beq_eq]at hB
 obtain⟨hlen,hback,hpairs⟩:=hB
 have hlen:es.length=ops.size:=by simpa using congrArg List.length e1
 have hes:∀(n:Nat) e,es[n]?=some e→ops.toList[n]?=some e.o:=by
  intro n e he
  rw[←e1];simp[he]
 have ahead:∀(i j:Nat) ei ej,es[i]?=some ei→es[j]?=some ej→i<j→(EE ops ei.o ej.o || H8 (ei.rd,ei.wr.map (·.1)) (ej.rd,ej.wr.map (·.1)))=true→E8 ops.toList i j:=by
  intro i j ei ej hi hj hlt hc
  have m1:=LX ops.toList (es.map fun e=>(e.rd,e.wr.map (·.1))) 0 i _ _ (hes i ei hi) (by simp[hi];rfl)
  have m2:=LX ops.toList (es.map fun e=>(e.rd,e.wr.map (·.1))) 0 j _ _ (hes j ej hj) (by simp[hj];rfl)
  simp only[RQ,List.all_eq_true]at hpairs
  have:=hpairs _ m1 _ m2
  simp only[Nat.zero_add]at this
  have hb:Nat.blt i j=true:=by simpa using hlt
  rw[hb,hc]at this
  simp only[Bool.not_true,Bool.false_or]at this
  exact NN ops.toList [] rfl (by simp[List.getD]) j i this
 let s0:=Ay σ.slots
 let h0:=Ag σ.heap
 let base:=σ.next
 let Sof:Array Bool→Nat→Bool:=fun listed k=>listed.getD k false
 have main:∀(fuel:Nat) (listed:Array Bool) (a:Act) (w:World),listed.size=ops.size→
   ((List.range ops.size).filter (fun k=>!Sof listed k)).length=fuel→
   (∀i j,E8 ops.toList i j→Sof listed j=true→Sof listed i=true)→
   Rel C (fun n=>base≤n∧∀i,Sof listed i=true→¬(base+32*i≤n∧n<base+32*i+32)) (DS (Sof listed) es 0 s0) (B8 (Sof listed) es 0 h0) a w→
   wpAnyIn (BZ C.ro) 0 C.P .any ops Q fuel listed a w:=by
  intro fuel
  induction fuel with
  | zero=>
   intro listed a w hsz hcnt hcl R
   have hall:∀k,k<ops.size→Sof listed k=true:=by
    intro k hk
    have:=List.eq_nil_of_length_eq_zero hcnt
    cases hs:Sof listed k with
    | true=>rfl
    | false=>
     have:k∈(List.range ops.size).filter (fun k=>!Sof listed k):=by simp[hk,hs]
     rw[List.eq_nil_of_length_eq_zero hcnt]at this
     simp at this
   refine⟨?_,?_⟩
   ·cases hr:Region.ready .any ops listed with
    | nil=>rfl
    | cons j l=>
     have hj:j∈Region.ready .any ops listed:=by rw[hr];simp
     obtain⟨h2,o,ho,_⟩:=mem_ready.1 hj
     have hlt:=(Array.getElem?_eq_some_iff.1 ho).1
     have:=hall j hlt
     simp only[Sof]at this
     have hjl:j<listed.size:=by omega
     simp[hjl]at this h2
     rw[this]at h2
     simp at h2
   ·refine hQ σ' a w hK ?_
    have:B0 C σ' a w↔Rel C (fun n=>σ'.next≤n) (Ay σ'.slots) (Ag σ'.heap) a w:=Iff.rfl
    rw[this,e3,e4,e5]
    have z1:DS (Sof listed) es 0 s0=QW es s0:=PR es 0 s0 (fun k hk=>by rw[Nat.zero_add];exact hall k (by omega))
    have z2:B8 (Sof listed) es 0 h0=QX es h0:=NQ es 0 h0 (fun k hk=>by rw[Nat.zero_add];exact hall k (by omega))
    rw[z1,z2]at R
    refine R.BH (fun n hn=>?_)
    simp only[Nat.zero_add,Array.length_toList]at hn
    refine⟨by simp only[base];omega,fun i hi=>?_⟩
    have:i<ops.size:=by
     simp only[Sof]at hi
     have hil:i<listed.size:=by
      rcases Nat.lt_or_ge i listed.size with h | h
      ·exact h
      ·simp[Array.getElem?_eq_none h]at hi
     omega
    simp only[base]
    omega
  | succ fuel ih=>
   intro listed a w hsz hcnt hcl R
   have hstep:∀i,i∈Region.ready .any ops listed→wpOpIn (BZ C.ro) 0 C.P ops Q i (wpAnyIn (BZ C.ro) 0 C.P .any ops Q fuel (listed.setIfInBounds i true)) a w:=by
    intro i hi
    obtain⟨hi0,o,ho,hedges⟩:=mem_ready.1 hi
    have hlt:i<ops.size:=(Array.getElem?_eq_some_iff.1 ho).1
    have hil:i<listed.size:=by omega
    have hS0:Sof listed i=false:=by
     simp[hil]at hi0
     simp[Sof,hil,hi0]
    have hS1:Sof (listed.setIfInBounds i true) i=true:=by simp[Sof,hil]
    have hSo:∀k,k≠i→Sof (listed.setIfInBounds i true) k=Sof listed k:=by
     intro k hk
     simp[Sof,Array.getElem?_setIfInBounds_ne (Ne.symm hk)]
    obtain⟨en,hen⟩:∃en,es[i]?=some en:=⟨es[i],by simp[hlen,hlt]⟩
    have hEnt:=Xu es 0 i s0 h0 en hlex hen
    rw[Nat.zero_add]at hEnt
    obtain⟨ho',hd,hg,hrun,hskip⟩:=hEnt
    rw[ho]at ho'
    obtain rfl:o=en.o:=by simpa using ho'
    -- who writes what i reads or writes
    have order:∀k e,es[k]?=some e→k≠i→(k<i→(EE ops e.o en.o || H8 (e.rd,e.wr.map (·.1)) (en.rd,en.wr.map (·.1)))=true)→
      (i<k→(EE ops en.o e.o || H8 (en.rd,en.wr.map (·.1)) (e.rd,e.wr.map (·.1)))=true)→Sof listed k=decide (k<i):=by
     intro k e he hne c1 c2
     by_cases hki:k<i
     ·have ah:=ahead k i e en he hen hki (c1 hki)
      have:Sof listed k=true:=by
       have gen:∀x y,E8 ops.toList x y→y=i→Sof listed x=true:=by
        intro x y hxy
        induction hxy with
        | edge hj hee hb hei=>
         intro hy
         subst hy
         rw[←hei]
         have:=hes _ en hen
         rw[hj]at this
         simp at this
         subst this
         exact hedges _ (by simpa using hee) hb
        | trans p q ihp ihq=>
         intro hy
         exact hcl _ _ p (ihq hy)
       exact gen k i ah rfl
      simp[this,hki]
     ·have hik:i<k:=by omega
      have ah:=ahead i k en e hen he hik (c2 hik)
      have:Sof listed k=false:=by
       cases hs:Sof listed k with
       | false=>rfl
       | true=>have:=hcl i k ah hs;rw[hS0]at this;simp at this
      simp[this,hki]
    have slotAgree:∀t,t∈GQ ops en.o→DS (Sof listed) es 0 s0 t=DS (fun k=>decide (k<i)) es 0 s0 t:=by
     intro t ht
     refine FO es 0 s0 s0 rfl (fun k e he hdst=>?_)
     rw[Nat.zero_add]
     by_cases hki:k=i
     ·subst hki;simp[hS0]
     ·refine order k e he hki (fun _=>?_) (fun _=>?_)
      ·simp[EE,LW (x:=t) (a:=e.o.dst.toList) (b:=GQ ops en.o) (by simp[hdst]) ht]
      ·simp[EE,LW (x:=t) (a:=GQ ops en.o) (b:=e.o.dst.toList) ht (by simp[hdst])]
    have idAgree:∀x,x∈en.rd→B8 (Sof listed) es 0 h0 x=B8 (fun k=>decide (k<i)) es 0 h0 x:=by
     intro x hx
     refine Ea es 0 h0 h0 rfl (fun k e he hw=>?_)
     rw[Nat.zero_add]
     by_cases hki:k=i
     ·subst hki;simp[hS0]
     ·refine order k e he hki (fun _=>?_) (fun _=>?_)
      ·simp[H8,Jv (x:=x) (a:=e.wr.map (·.1)) (b:=en.rd) hw hx]
      ·simp[H8,Jv (x:=x) (a:=en.rd) (b:=e.wr.map (·.1)) hx hw]
    have cl':∀x y,E8 ops.toList x y→Sof (listed.setIfInBounds i true) y=true→Sof (listed.setIfInBounds i true) x=true:=by
     intro x y hxy hy
     by_cases hx:x=i
     ·rw[hx];exact hS1
     ·rw[hSo x hx]
      by_cases hyi:y=i
      ·subst hyi
       have gen:∀x y',E8 ops.toList x y'→y'=y→Sof listed x=true:=by
        intro x y' hxy
        induction hxy with
        | edge hj hee hb hei=>
         intro hy
         subst hy
         rw[←hei]
         have:=hes _ en hen
         rw[hj]at this
         simp at this
         subst this
         exact hedges _ (by simpa using hee) hb
        | trans p q ihp ihq=>
         intro hy
         exact hcl _ _ p (ihq hy)
       exact gen x y hxy rfl
      ·rw[hSo y hyi]at hy
       exact hcl x y hxy hy
    have cnt':((List.range ops.size).filter (fun k=>!Sof (listed.setIfInBounds i true) k)).length=fuel:=by
     have:=filter_one (p:=fun k=>!Sof listed k) (p':=fun k=>!Sof (listed.setIfInBounds i true) k) (i:=i) (l:=List.range ops.size) List.nodup_range (by simp[hlt]) (by simp[hS0]) (by simp[hS1])
      (fun k hk=>by simp[hSo k hk])
     omega
    have addS:DS (Sof (listed.setIfInBounds i true)) es 0 s0=DY (DS (Sof listed) es 0 s0) en.o.dst en.val:=by
     funext t
     refine PQ es 0 s0 hen (by simpa using hS0) (by simpa using hS1) (fun k hk=>hSo k (by omega)) (fun hdst k e he hdst' hik=>?_)
     rw[Nat.zero_add]
     have:=order k e he (by omega) (fun h=>absurd h (by omega)) (fun _=>by simp[EE,LW (x:=t) (a:=en.o.dst.toList) (b:=e.o.dst.toList) (by simp[hdst]) (by simp[hdst'])])
     rw[this]
     simp;omega
    have addH:B8 (Sof (listed.setIfInBounds i true)) es 0 h0=BP (B8 (Sof listed) es 0 h0) en.wr:=by
     funext x
     refine NP es 0 h0 hen (by simpa using hS0) (by simpa using hS1) (fun k hk=>hSo k (by omega)) (fun hw k e he hw' hik=>?_)
     rw[Nat.zero_add]
     have:=order k e he (by omega) (fun h=>absurd h (by omega)) (fun _=>by simp[H8,Jv (x:=x) (a:=en.wr.map (·.1)) (b:=e.wr.map (·.1)) hw hw'])
     rw[this]
     simp;omega
    have next:∀a' w',Rel C (fun n=>(base≤n∧∀i,Sof listed i=true→¬(base+32*i≤n∧n<base+32*i+32))∧¬(base+32*i≤n∧n<base+32*i+32))
      (DY (DS (Sof listed) es 0 s0) en.o.dst en.val) (BP (B8 (Sof listed) es 0 h0) en.wr) a' w'→wpAnyIn (BZ C.ro) 0 C.P .any ops Q fuel (listed.setIfInBounds i true) a' w':=by
     intro a' w' R'
     refine ih _ a' w' (by simp[hsz]) cnt' cl' ?_
     rw[addS,addH]
     refine R'.BH (fun n hn=>⟨⟨hn.1,fun j hj=>?_⟩,hn.2 i hS1⟩)
     by_cases hji:j=i
     ·subst hji;exact hn.2 j hS1
     ·exact hn.2 j (by rw[hSo j hji];exact hj)
    have hw:Region.wanted en.o (yielded ops a.tmps)=en.run:=by
     unfold DR at hg
     split at hg
     ·rename_i hgn
      simp[Region.wanted,hgn,hg]
     ·rename_i j want hgs
      obtain⟨d,hdj,hsd⟩:=hg
      have hmem:d∈GQ ops en.o:=by simp[GQ,hgs,hdj]
      rw[←slotAgree d hmem]at hsd
      rcases hsd with hsd | ⟨hrf,hsd⟩
      rotate_left
      ·have hy:yielded ops a.tmps j=none:=by
        obtain⟨g,R⟩:=R
        have:=R.slots d
        rw[hsd]at this
        obtain⟨vs,hv,_⟩:=this
        exact Ia hdj ⟨vs,hv⟩
       simp[Region.wanted,hgs,hy,hrf]
      have hy:yielded ops a.tmps j=some (if en.run then want else !want):=by
       obtain⟨g,R⟩:=R
       have:=R.slots d
       rw[hsd]at this
       have hv:=Nk this
       unfold yielded
       rw[hdj]
       have:a.tmps[d]?=some (.bool (if en.run then want else !want)):=by
        rw[Array.getD_eq_getD_getElem?]at hv
        cases h:a.tmps[d]? with
        | none=>rw[h]at hv;simp[undef]at hv
        | some v=>rw[h]at hv;simpa using hv
       simp[this]
      simp only[Region.wanted,hgs,hy]
      cases en.run<;>cases want<;>rfl
    unfold wpOpIn
    rw[ho]
    simp only[]
    cases hr:en.run with
    | true=>
     rw[if_pos (by rw[hw,hr])]
     refine E5 (hrun hr).1 (Oper.wp_mono next ?_)
     refine (hrun hr).2 _ _ _ a w Q R (fun t ht=>slotAgree t (by simp[GQ,EF ht])) idAgree (fun k hk=>⟨by omega,fun j hj=>?_⟩) hd
     by_cases hji:j=i
     ·subst hji;rw[hS0]at hj;simp at hj
     ·omega
    | false=>
     rw[if_neg (by rw[hw,hr];simp)]
     obtain⟨z1,z2,z3⟩:=hskip hr
     refine⟨fun f _=>Dd _ f,next _ w ?_⟩
     rw[z1,z2]
     obtain⟨g,R⟩:=R
     refine⟨g,(R.put hd (v:=.t []) ⟨#[],rfl,rfl,by simp⟩).BH (fun n hn=>hn.1)⟩
   refine⟨fun hnil=>?_,hstep⟩
   -- not all are listed: the least of those is ready
   exfalso
   have hex:∃k,k<ops.size∧Sof listed k=false:=by
    have:(List.range ops.size).filter (fun k=>!Sof listed k)≠[]:=by intro e;rw[e]at hcnt;simp at hcnt
    obtain⟨k,hk⟩:=List.exists_mem_of_ne_nil _ this
    simp at hk
    exact⟨k,hk.1,hk.2⟩
   obtain⟨k,⟨hk1,hk2⟩,hmin⟩:=least hex
   have:k∈Region.ready .any ops listed:=by
    refine mem_ready.2 ⟨?_,ops[k],by simp[hk1],fun e he hb=>?_⟩
    ·have hkl:k<listed.size:=by omega
     simp only[Sof]at hk2
     simp[hkl]at hk2 ⊢
     exact hk2
    ·have hlt:e.on<0+k:=QY ops.toList 0 k ops[k] e hback (by simp[hk1]) (by simpa using he) hb
     cases hs:Sof listed e.on with
     | true=>exact hs
     | false=>have:=hmin e.on ⟨by omega,hs⟩;omega
   rw[hnil]at this
   simp at this
 refine main ops.size (Array.replicate ops.size false) a _ (by simp) ?_ ?_ ?_
 ·have:(List.range ops.size).filter (fun k=>!Sof (Array.replicate ops.size false) k)=List.range ops.size:=by
   refine List.filter_eq_self.2 fun k hk=>?_
   simp only[Sof,Array.getD_eq_getD_getElem?,Array.getElem?_replicate]
   split<;>rfl
  rw[this];simp
 ·intro i j _ hj
  exfalso
  revert hj
  simp only[Sof,Array.getD_eq_getD_getElem?,Array.getElem?_replicate]
  split<;>simp
 ·have hz:∀k,Sof (Array.replicate ops.size false) k=false:=by intro k;simp only[Sof,Array.getD_eq_getD_getElem?,Array.getElem?_replicate];split<;>rfl
  rw[Ju es 0 s0 (fun k _=>hz k),H9 es 0 h0 (fun k _=>hz k)]
  obtain⟨g,R⟩:=R
  exact⟨g,R.drew.BH (fun n hn=>hn.1)⟩
theorem RT (hti:BV C.P ti) (h1:Bo ti) (hm:C.P.follows .mixedOrders=true):H7 C (CH ti C.M C.nt):=
 fun _ ops σ K Q a w hQ hk R=>wpIn_region_any hm (TG hti h1 ops σ K Q a w hQ hk R)
end
end Go.AM
namespace Go.AM
open Go Go.RowKit
theorem Ap.Xd {C:Cx}{F:Nat→Prop}{s:Af}{h:Heap}{g:Ac}{a:Act}{w:World}(R:Ap C F s h g a w) (t:Nat) (v:AV) (hr:BG w (BN (zone g h) C.X) g h v (a.tmps.getD t undef)):
  Ap C F (DY s (some t) v) h g a w:=by
 refine {R with slots:=fun t'=>?_}
 simp only[DY]
 split
 ·subst_vars;exact hr
 ·exact R.slots t'
theorem Ap.Y1 {C:Cx}{F:Nat→Prop}{s:Af}{h:Heap}{g:Ac}{a:Act}{w:World}(R:Ap C F s h g a w) {n:Nat}(hf:F n) (ag:Bool) {sz:Nat}(hsz:0<sz) (e:TypeId):
  Ap C (fun k=>F k∧k≠n) s (AX h (.loc n) (.tok 0 sz e)) (Au g (.loc n) (.slice none 0 0)) a w∧
   BM w (BN (zone (Au g (.loc n) (.slice none 0 0)) (AX h (.loc n) (.tok 0 sz e))) C.X) (Au g (.loc n) (.slice none 0 0)) (AX h (.loc n) (.tok 0 sz e)) (.lst (.loc n) ag sz []) (.slice none 0 0):=
 R.owned (out:=[]) (zs:=[]) hf ⟨rfl,rfl,rfl,Nat.le_refl _,fun _ _ _=>rfl⟩ hsz (World.ownsRow_nil w _ e sz) (by simp) (by simp)
def N3 (t:Nat) (ag:Bool) (sz:Nat) (e:TypeId) (σ:St):St:=
 ⟨(t,.v (.c (.lst (.loc σ.next) ag sz [])))::σ.slots,DQ σ.heap (.loc σ.next) (.tok 0 sz e),σ.next+32⟩
theorem N4 {t:Nat}{ag:Bool}{sz:Nat}{e:TypeId}{σ:St}(hsz:Nat.blt 0 sz=true) (ht:Ay σ.slots t= .v (.c (.nils ag sz))):CG σ (N3 t ag sz e σ):=by
 rintro C a w ⟨g,R⟩
 have hv:=R.slots t
 rw[ht]at hv
 have hv:a.tmps.getD t undef= .slice none 0 0:=hv
 obtain⟨R',hl⟩:=R.Y1 (n:=σ.next) (Nat.le_refl _) ag (sz:=sz) (by simp[Nat.blt]at hsz;omega) e
 have R2:=(R'.Xd t (.v (.c (.lst (.loc σ.next) ag sz []))) (by rw[hv];exact hl)).BH (F':=fun n=>σ.next+32≤n) (fun n hn=>⟨by omega,by omega⟩)
 refine⟨Au g (.loc σ.next) (.slice none 0 0),?_⟩
 simp only[N3,Ca,Cr]
 exact R2
def LY {α:Type}:List α→Nat→α→List α
 | [],_,_=>[]
 | x::r,n,y=>match n with
  | 0=>y::r
  | m+1=>x::LY r m y
theorem Jw {α:Type}:∀(l:List α) (n:Nat) (y:α),LY l n y=l.set n y
 | [],_,_=>rfl
 | _::_,0,_=>rfl
 | x::r,n+1,y=>by simp[LY,Jw r n y]
def Kh (i:Id) (j:Nat) (ag:Bool) (sz:Nat) (e:TypeId) (σ:St):St:=
 match Ag σ.heap i with
 | some (.cells cs)=>⟨σ.slots,DQ (DQ σ.heap (.loc σ.next) (.tok 0 sz e)) i (.cells (LY cs j (.lst (.loc σ.next) ag sz []))),σ.next+32⟩
 | _=>σ
theorem Ii {i:Id}{j:Nat}{ag:Bool}{sz:Nat}{e:TypeId}{σ:St}{cs:List CV}(hsz:Nat.blt 0 sz=true) (hi:Ag σ.heap i=some (.cells cs)) (hj:cs[j]?=some (.nils ag sz)):CG σ (Kh i j ag sz e σ):=by
 rintro C a w ⟨g,R⟩
 obtain⟨R',hl⟩:=R.Y1 (n:=σ.next) (Nat.le_refl _) ag (sz:=sz) (by simp[Nat.blt]at hsz;omega) e
 have hne:i≠ .loc σ.next:=by
  rintro rfl
  have:=(R.free σ.next (Nat.le_refl _)).2
  rw[this]at hi;cases hi
 have hi':AX (Ag σ.heap) (.loc σ.next) (.tok 0 sz e) i=some (.cells cs):=by simp[AX,hne,hi]
 obtain⟨b,c,et,hb,hh,hsz2,hr⟩:=R'.heap.objs i _ hi'
 have R2:=R'.store (cs':=cs.set j (.lst (.loc σ.next) ag sz [])) hi' hb hh (c':=c) (by simp[hsz2]) (fun k x u hx hu=>by
  by_cases hk:k=j
  ·subst hk
   have hlt:k<cs.length:=(List.getElem?_eq_some_iff.1 hj).1
   rw[List.getElem?_set_self hlt]at hx
   cases hx
   have:=hr k _ u hj hu
   rw[show u=_ from this]
   exact hl
  ·rw[List.getElem?_set_ne (by omega)]at hx
   exact hr k x u hx hu)
 have hw:w.setRow b c=w:=setRow_self w b c _ _ hh
 rw[hw]at R2
 have R3:=R2.BH (F':=fun n=>σ.next+32≤n) (fun n hn=>⟨by omega,by omega⟩)
 refine⟨Au g (.loc σ.next) (.slice none 0 0),?_⟩
 simp only[Kh,hi,Cr,Jw]
 exact R3
inductive QZ where
 | slot (t:Nat) (ag:Bool) (sz:Nat) (e:TypeId)
 | cell (i:Id) (j:Nat) (ag:Bool) (sz:Nat) (e:TypeId)
def GR (ag:Bool) (sz:Nat):CV→Bool
 | .nils a s=>(a==ag)&&Nat.beq s sz
 | _=>false
def N5 (ag:Bool) (sz:Nat):AV→Bool
 | .v (.c c)=>GR ag sz c
 | _=>false
def PS:List CV→Nat→CV
 | [],_=>.un
 | x::r,n=>match n with
  | 0=>x
  | m+1=>PS r m
def N6 (K:St→Prop):List QZ→St→Prop
 | [],σ=>K σ
 | .slot t ag sz e::r,σ=>Bq (Nat.blt 0 sz)<| Bq (N5 ag sz (Ay σ.slots t))<| N6 K r (N3 t ag sz e σ)
 | .cell i j ag sz e::r,σ=>Bq (Nat.blt 0 sz)<| (match Ag σ.heap i with
  | some (.cells cs)=>Bq (GR ag sz (PS cs j))<| N6 K r (Kh i j ag sz e σ)
  | _=>False)
theorem NR {ag:Bool}{sz:Nat}{c:CV}(h:GR ag sz c=true):c= .nils ag sz:=by
 cases c<;>simp[GR]at h
 obtain⟨rfl,h⟩:=h
 rw[h]
theorem Ij:∀{cs:List CV}{j:Nat}{ag:Bool}{sz:Nat},GR ag sz (PS cs j)=true→cs[j]?=some (.nils ag sz)
 | [],j,ag,sz,h=>by simp[PS,GR]at h
 | x::r,0,ag,sz,h=>by simpa using NR (by simpa [PS] using h)
 | x::r,j+1,ag,sz,h=>by simpa using Ij (cs:=r) (j:=j) (by simpa [PS] using h)
theorem GS {K:St→Prop}:∀{l:List QZ}{σ:St},N6 K l σ→∃σ',(∀C a w,B0 C σ a w→B0 C σ' a w)∧K σ'
 | [],σ,h=>⟨σ,fun _ _ _ r=>r,h⟩
 | .slot t ag sz e::r,σ,h=>by
  obtain⟨h1,h⟩:=AR.1 h
  obtain⟨h2,h⟩:=AR.1 h
  obtain⟨σ',h3,h4⟩:=GS h
  have ht:Ay σ.slots t= .v (.c (.nils ag sz)):=by
   revert h2
   cases Ay σ.slots t with
   | v x=>cases x with
    | c c=>intro h2;rw[NR h2]
    | _=>intro h2;simp[N5]at h2
   | _=>intro h2;simp[N5]at h2
  exact⟨σ',fun C a w r=>h3 C a w (N4 h1 ht C a w r),h4⟩
 | .cell i j ag sz e::r,σ,h=>by
  obtain⟨h1,h⟩:=AR.1 h
  split at h
  ·rename_i cs hi
   obtain⟨h2,h⟩:=AR.1 h
   obtain⟨σ',h3,h4⟩:=GS h
   exact⟨σ',fun C a w r=>h3 C a w (Ii h1 hi (Ij h2) C a w r),h4⟩
  ·exact h.elim
theorem CG.trans {a b c:St}(h1:CG a b) (h2:CG b c):CG a c:=fun C x w r=>h2 C x w (h1 C x w r)
theorem CG.refl (a:St):CG a a:=fun _ _ _ r=>r
end Go.AM
namespace Go.AM
open Go Go.RowKit
def TH (c:CV) (j:Id) (n:Nat):CV:=
 match c with
 | .d (.list ag sz rows)=>match Nat.beq rows.length n with
  | true=>.d (.list ag sz rows)
  | false=>.sl j n
 | _=>.sl j n
def CV.sub (x:CV) (i:Id) (c:CV):CV:=
 match x with
 | .ow j=>match Id.beq j i with
  | true=>c
  | false=>.ow j
 | .sl j n=>match Id.beq j i with
  | true=>TH c j n
  | false=>.sl j n
 | x=>x
def isM (i:Id) (c:CV):CV→Prop
 | .ow j=>j=i
 | .sl j n=>j=i∧∃ag sz rows,c= .d (.list ag sz rows)∧rows.length=n
 | _=>False
def PT (i:Id) (c:CV):List CV→List CV
 | []=>[]
 | x::r=>x.sub i c::PT i c r
def V1.sub (i:Id) (c:CV) (x:V1):V1:=
 match x with
 | .d x=>.d x
 | .c x=>match x.sub i c with
  | .d y=>.d y
  | y=>.c y
 | .agg cs=>.agg (PT i c cs)
def VG (i:Id) (c:CV):List V1→List V1
 | []=>[]
 | x::r=>x.sub i c::VG i c r
def AV.sub (i:Id) (c:CV) (x:AV):AV:=
 match x with
 | .u=>.u
 | .v x=>.v (x.sub i c)
 | .t xs=>.t (VG i c xs)
def AQ.sub (i:Id) (c:CV) (o:AQ):AQ:=
 match o with
 | .cells cs=>.cells (PT i c cs)
 | .tree kd ag sz rows foc=>.tree kd ag sz rows (match foc with
  | some x=>some (x.1,PT i c x.2)
  | none=>none)
 | o=>o
theorem FP {i:Id}{c:CV}:∀{l:List CV},PT i c l=l.map (fun x=>x.sub i c)
 | []=>rfl
 | x::l=>by simp[PT,FP (l:=l)]
theorem N7 {i:Id}{c:CV}:∀{l:List V1},VG i c l=l.map (V1.sub i c)
 | []=>rfl
 | x::l=>by simp[VG,N7 (l:=l)]
section
variable {C:Cx}{F:Nat→Prop}{s:Af}{h:Heap}{g:Ac}{a:Act}{w:World}
theorem Ik {w':World}{Z Z':Av}{g':Ac}{h':Heap}{i:Id}{c:CV}(hE:∀{x:CV}{v:Value},BM w Z g h x v→BM w' Z' g' h' x v) (hc:∀x v,isM i c x→BM w Z g h x v→BM w' Z' g' h' c v) {x:CV}{v:Value}(r:BM w Z g h x v):
  BM w' Z' g' h' (x.sub i c) v:=by
 unfold CV.sub
 split
 ·rename_i j
  cases e:Id.beq j i with
  | true=>exact hc (.ow j) v (Id.beq_iff.1 e:j=i) r
  | false=>exact hE r
 ·rename_i j n
  cases e:Id.beq j i with
  | true=>
   show BM w' Z' g' h' (TH c j n) v
   unfold TH
   split
   ·rename_i ag sz rows
    cases e2:Nat.beq rows.length n with
    | true=>exact hc (.sl j n) v ⟨Id.beq_iff.1 e,ag,sz,rows,rfl,Nat.eq_of_beq_eq_true e2⟩ r
    | false=>exact hE r
   ·exact hE r
  | false=>exact hE r
 ·exact hE r
theorem NS {w':World}{Z Z':Av}{g':Ac}{h':Heap}{i:Id}{c:CV}(hE:∀{x:CV}{v:Value},BM w Z g h x v→BM w' Z' g' h' x v) (hD:∀{x:D}{v:Value},Aj w Z x v→Aj w' Z' x v) (hc:∀x v,isM i c x→BM w Z g h x v→BM w' Z' g' h' c v) {x:V1}{v:Value}(r:BE w Z g h x v):
  BE w' Z' g' h' (x.sub i c) v:=by
 cases x with
 | d x=>exact hD r
 | c x=>
  have:=Ik hE hc (x:=x) r
  show BE w' Z' g' h' (match x.sub i c with | .d y=>.d y | y=>.c y) v
  split
  ·rename_i y hy
   rw[hy]at this
   exact this.1
  ·exact this
 | agg cs=>
  obtain⟨vs,hv,hs,hr⟩:=r
  refine⟨vs,hv,by rw[FP];simpa using hs,fun j y u hy hu=>?_⟩
  rw[FP,List.getElem?_map,Option.map_eq_some_iff]at hy
  obtain⟨x,hx,rfl⟩:=hy
  exact Ik hE hc (hr j x u hx hu)
theorem SP {w':World}{Z Z':Av}{g':Ac}{h':Heap}{i:Id}{c:CV}(hE:∀{x:CV}{v:Value},BM w Z g h x v→BM w' Z' g' h' x v) (hD:∀{x:D}{v:Value},Aj w Z x v→Aj w' Z' x v) (hc:∀x v,isM i c x→BM w Z g h x v→BM w' Z' g' h' c v) {x:AV}{v:Value}(r:BG w Z g h x v):
  BG w' Z' g' h' (x.sub i c) v:=by
 cases x with
 | u=>trivial
 | v x=>exact NS hE hD hc r
 | t xs=>
  obtain⟨vs,hv,hs,hr⟩:=r
  refine⟨vs,hv,by rw[N7];simpa using hs,fun j y u hy hu=>?_⟩
  rw[N7,List.getElem?_map,Option.map_eq_some_iff]at hy
  obtain⟨x,hx,rfl⟩:=hy
  exact NS hE hD hc (hr j x u hx hu)
def Cf (h:Heap) (i:Id) (c:CV) (nw:Option (Nat×AQ)):Heap:=fun j=>
 match nw with
 | some (n,o)=>if j= .loc n then some o else if j=i then some .gone else (h j).map (AQ.sub i c)
 | none=>if j=i then some .gone else (h j).map (AQ.sub i c)
def Cw (g:Ac) (i:Id) (nw:Option (Nat×AQ)):Ac:=
 match nw with
 | some (n,_)=>Au g (.loc n) (g i)
 | none=>g
theorem PU {i:Id}{c:CV}{gv:Value}{o:AQ}{b p:Nat}:Bg gv (o.sub i c) b p↔Bg gv o b p:=by
 cases o<;>exact Iff.rfl
theorem Ki {i:Id}{c:CV}{gv:Value}{o:AQ}{b:Nat}:ET gv (o.sub i c) b↔ET gv o b:=by
 cases o<;>exact Iff.rfl
theorem TJ {i:Id}{c:CV}{o:Option AQ}:isLive (o.map (AQ.sub i c))=isLive o:=by
 cases o with
 | none=>rfl
 | some o=>cases o<;>rfl
theorem Ap.swap (R:Ap C F s h g a w) {i:Id}{ob:AQ}(hi:h i=some ob) (hob:Cd ob) {c:CV}{nw:Option (Nat×AQ)}(hnw:∀n o,nw=some (n,o)→F n∧o=ob) {F':Nat→Prop}(hF:∀k,F' k→F k∧∀n o,nw=some (n,o)→k≠n)
  (hc:(∀b o,BN (zone (Cw g i nw) (Cf h i c nw)) C.X b o→BN (zone g h) C.X b o)→(nw=none→∀b o,Bi (g i) b→¬BN (zone (Cw g i nw) (Cf h i c nw)) C.X b o)→
   ∀x v,isM i c x→BM w (BN (zone g h) C.X) g h x v→BM w (BN (zone (Cw g i nw) (Cf h i c nw)) C.X) (Cw g i nw) (Cf h i c nw) c v):
  Ap C F' (fun t=>(s t).sub i c) (Cf h i c nw) (Cw g i nw) a w:=by
 -- what lies where
 have hn:∀n o,nw=some (n,o)→g (.loc n)=undef∧h (.loc n)=none:=fun n o e=>R.free n (hnw n o e).1
 have gsm:∀j,(∀n o,nw=some (n,o)→j≠ .loc n)→Cw g i nw j=g j:=by
  intro j hj
  unfold Cw
  split
  ·rename_i n o
   simp[Au,hj n o rfl]
  ·rfl
 have gne:∀j,g j≠undef→Cw g i nw j=g j:=fun j hj=>gsm j fun n o e hjn=>hj (hjn▸(hn n o e).1)
 have cases_:∀j o,Cf h i c nw j=some o→(∃n,nw=some (n,o)∧j= .loc n∧o=ob∧Cw g i nw j=g i)∨(j=i∧o= .gone)∨(j≠i∧∃o0,h j=some o0∧o=o0.sub i c∧Cw g i nw j=g j):=by
  intro j o hj
  have other:(∀n o,nw=some (n,o)→j≠ .loc n)→(if j=i then some AQ.gone else (h j).map (AQ.sub i c))=some o→(j=i∧o= .gone)∨(j≠i∧∃o0,h j=some o0∧o=o0.sub i c∧Cw g i nw j=g j):=by
   intro hj' hj
   split at hj
   ·cases hj;exact .inl ⟨by assumption,rfl⟩
   ·rename_i hne
    obtain⟨o0,h1,h2⟩:=Option.map_eq_some_iff.1 hj
    exact .inr ⟨hne,o0,h1,h2.symm,gsm j hj'⟩
  unfold Cf at hj
  split at hj
  ·rename_i n o'
   split at hj
   ·rename_i hjn
    cases hj
    subst hjn
    exact .inl ⟨n,rfl,rfl,(hnw n _ rfl).2,by simp[Cw,Au]⟩
   ·rename_i hjn
    exact .inr (other (by rintro n' o'' e;cases e;exact hjn) hj)
  ·exact .inr (other (by rintro n' o'' e;cases e) hj)
 have hz1:∀j o b p,Cf h i c nw j=some o→Bg (Cw g i nw j) o b p→∃j' o',h j'=some o'∧Bg (g j') o' b p∧(j'=j∨j'=i):=by
  intro j o b p hj hb
  rcases cases_ j o hj with⟨n,_,_,rfl,hg⟩ | ⟨rfl,rfl⟩ | ⟨_,o0,h1,rfl,hg⟩
  ·rw[hg]at hb
   exact⟨i,_,hi,hb,.inr rfl⟩
  ·exact hb.elim
  ·rw[hg]at hb
   exact⟨j,o0,h1,PU.1 hb,.inl rfl⟩
 have hz:∀b o,BN (zone (Cw g i nw) (Cf h i c nw)) C.X b o→BN (zone g h) C.X b o:=by
  rintro b p (⟨j,o,hj,hb⟩ | hx)
  ·obtain⟨j',o',h1,h2,_⟩:=hz1 j o b p hj hb
   exact .inl ⟨j',o',h1,h2⟩
  ·exact .inr hx
 have hgone:nw=none→∀b o,Bi (g i) b→¬BN (zone (Cw g i nw) (Cf h i c nw)) C.X b o:=by
  rintro e b p hb (⟨j,o,hj,h1⟩ | hx)
  ·rcases cases_ j o hj with⟨n,e',_⟩ | ⟨rfl,rfl⟩ | ⟨hne,o0,h2,rfl,hg⟩
   ·rw[e]at e';cases e'
   ·exact h1.elim
   ·rw[hg]at h1
    exact hne (R.heap.sep j i o0 ob b h2 hi (PU.1 h1).G4 (hob.G4 hb))
  ·exact R.heap.apart i _ b p hi (hob.G4 hb) hx
 have E:IM w (BN (zone g h) C.X) g h w (BN (zone (Cw g i nw) (Cf h i c nw)) C.X) (Cw g i nw) (Cf h i c nw):=by
  refine⟨fun b o u hu hx=>⟨hu,fun hy=>hx (hz b o hy)⟩,fun j b hb=>gne j (by rw[hb];simp[undef]),fun j q hq=>gne j (by rw[hq];simp[undef]),fun j hj=>?_,fun j k sz e hj hk=>?_,fun j hj=>?_,fun j hj hl=>?_⟩
  ·rw[gne j (fun e=>by rw[e]at hj;exact hj)];exact hj
  ·have e1:=gne j (fun e=>by rw[e]at hj;exact hj)
   rcases cases_ j _ hk with⟨n,e',rfl,_,_⟩ | ⟨_,h2⟩ | ⟨_,o0,h2,h3,_⟩
   ·rw[(hn n _ e').1]at hj;exact hj.elim
   ·cases h2
   ·cases o0<;>simp[AQ.sub]at h3
    obtain⟨rfl,rfl,rfl⟩:=h3
    exact⟨_,Nat.le_refl _,h2,fun _=>e1⟩
  ·rw[gne j (fun e=>Be (e▸hj))];exact hj
  ·refine⟨?_,by rw[gne j (fun e=>Be (e▸hj))]⟩
   cases ho:Cf h i c nw j with
   | none=>rw[ho]at hl;cases hl
   | some o=>
    rw[ho]at hl
    rcases cases_ j o ho with⟨n,e',rfl,_,_⟩ | ⟨_,rfl⟩ | ⟨_,o0,h2,rfl,_⟩
    ·rw[(hn n _ e').1]at hj;exact (Be hj).elim
    ·cases hl
    ·rw[h2,←TJ (i:=i) (c:=c)];exact hl
 have hcc:=hc hz hgone
 have objs:∀j o,Cf h i c nw j=some o→Bd w (BN (zone (Cw g i nw) (Cf h i c nw)) C.X) (Cw g i nw) (Cf h i c nw) o (Cw g i nw j):=by
  intro j o hj
  rcases cases_ j o hj with⟨n,_,_,rfl,hg⟩ | ⟨rfl,rfl⟩ | ⟨_,o0,h1,rfl,hg⟩
  ·rw[hg]
   exact (R.heap.objs i _ hi).Yx E fun _ _=>rfl
  ·trivial
  ·rw[hg]
   cases o0 with
   | cells cs=>
    obtain⟨b,cc,e,h2,h3,h4,h5⟩:=R.heap.objs j _ h1
    refine⟨b,cc,e,h2,h3,by rw[FP];simpa using h4,fun q x u hx hu=>?_⟩
    rw[FP,List.getElem?_map,Option.map_eq_some_iff]at hx
    obtain⟨y,hy,rfl⟩:=hx
    exact Ik E.KY hcc (h5 q y u hy hu)
   | tree kd ag sz rows foc=>
    cases foc with
    | none=>exact (R.heap.objs j _ h1).Yx E fun _ _=>rfl
    | some x=>
     obtain⟨k,cs⟩:=x
     obtain⟨ht,h0,hf,xs,hx,hcs,U,T,p1,p2,p3,p4,p5⟩:=R.heap.objs j _ h1
     have sk:∀{i':Nat},(∀k' cs',(some (k,PT i c cs):Option (Nat×List CV))=some (k',cs')→i'≠k')→∀k' cs',(some (k,cs):Option (Nat×List CV))=some (k',cs')→i'≠k':=by
      intro i' hi k' cs' e
      cases e
      exact hi k _ rfl
     have sk':∀{i':Nat},(∀k' cs',(some (k,cs):Option (Nat×List CV))=some (k',cs')→i'≠k')→∀k' cs',(some (k,PT i c cs):Option (Nat×List CV))=some (k',cs')→i'≠k':=by
      intro i' hi k' cs' e
      cases e
      exact hi k _ rfl
     refine⟨ht,h0,hf,xs,hx,fun k' cs' e=>?_,U,T,fun i' r jj d hi hr hd=>⟨(p1 i' r jj d (sk hi) hr hd).1,(p1 i' r jj d (sk hi) hr hd).2.map E.G5 id⟩,fun i' jj b hb=>⟨sk' (p2 i' jj b hb).1,(p2 i' jj b hb).2⟩,p3,p4,p5⟩
     cases e
     obtain⟨g1,g2,g3⟩:=hcs k cs rfl
     refine⟨g1,by rw[FP];simpa using g2,fun q x u hx hu=>?_⟩
     rw[FP,List.getElem?_map,Option.map_eq_some_iff]at hx
     obtain⟨y,hy,rfl⟩:=hx
     exact Ik E.KY hcc (g3 q y u hy hu)
   | _=>exact (R.heap.objs j _ h1).Yx E fun _ _=>rfl
 have hsep:∀j j' oi oj b,Cf h i c nw j=some oi→Cf h i c nw j'=some oj→ET (Cw g i nw j) oi b→ET (Cw g i nw j') oj b→j=j':=by
  intro j j' oi oj b h1 h2 h3 h4
  rcases cases_ j oi h1 with⟨n,e,rfl,rfl,hg⟩ | ⟨rfl,rfl⟩ | ⟨hne,o0,h5,rfl,hg⟩
  ·rcases cases_ j' oj h2 with⟨n',e',rfl,_,_⟩ | ⟨rfl,rfl⟩ | ⟨hne',o0',h5',rfl,hg'⟩
   ·rw[e]at e';cases e';rfl
   ·exact h4.elim
   ·rw[hg]at h3
    rw[hg']at h4
    exact absurd (R.heap.sep i j' _ _ b hi h5' h3 (Ki.1 h4)).symm hne'
  ·exact h3.elim
  ·rw[hg]at h3
   rcases cases_ j' oj h2 with⟨n',e',rfl,rfl,hg'⟩ | ⟨rfl,rfl⟩ | ⟨hne',o0',h5',rfl,hg'⟩
   ·rw[hg']at h4
    exact absurd (R.heap.sep j i _ _ b h5 hi (Ki.1 h3) h4) hne
   ·exact h4.elim
   ·rw[hg']at h4
    exact R.heap.sep j j' _ _ b h5 h5' (Ki.1 h3) (Ki.1 h4)
 have RS:=R.step (F':=F') (fun _=>True) E ⟨rfl,rfl,rfl,Nat.le_refl _,fun _ _ _=>rfl,fun _ _ _ hu _=>hu⟩ (fun j hj=>absurd trivial hj) (fun _ _ _ hj=>absurd trivial hj) (fun j o _ hj=>objs j o hj)
  (fun j o b p _ hj hb=>let ⟨j',o',h1,h2,_⟩:=hz1 j o b p hj hb;.inl ⟨j',o',trivial,h1,h2⟩) (fun j j' oi oj b _ _ h1 h2 h3 h4=>hsep j j' oi oj b h1 h2 h3 h4) (fun j _=>by rw[gsm (.ext j) (by rintro n o _ e;cases e)];exact .refl _)
  (fun k hk=>by
   obtain⟨h1,h2⟩:=hF k hk
   obtain⟨h3,h4⟩:=R.free k h1
   have hne:∀n o,nw=some (n,o)→Id.loc k≠ .loc n:=fun n o e h=>h2 n o e (by cases h;rfl)
   refine⟨(gsm _ hne).trans h3,?_⟩
   cases ho:Cf h i c nw (.loc k)with
   | none=>rfl
   | some o=>
    rcases cases_ _ o ho with⟨n,e,e',_⟩ | ⟨e,_⟩ | ⟨_,o0,h5,_⟩
    ·exact absurd e' (hne n _ e)
    ·rw[←e,h4]at hi;cases hi
    ·rw[h4]at h5;cases h5)
 exact {RS with slots:=fun t=>SP E.KY E.G5 hcc (R.slots t)}
def RU (i:Id) (c:CV):List (Nat×AV)→List (Nat×AV)
 | []=>[]
 | (t,v)::r=>(t,v.sub i c)::RU i c r
def PV (i:Id) (c:CV):List (Id×AQ)→List (Id×AQ)
 | []=>[]
 | (j,o)::r=>(j,o.sub i c)::PV i c r
theorem LZ {i:Id}{c:CV}:∀{l:List (Nat×AV)}{t:Nat},Ay (RU i c l) t=(Ay l t).sub i c
 | [],t=>rfl
 | (k,v)::r,t=>by
  show (match Nat.beq k t with | true=>v.sub i c | false=>Ay (RU i c r) t)=(match Nat.beq k t with | true=>v | false=>Ay r t).sub i c
  cases Nat.beq k t with
  | true=>rfl
  | false=>exact LZ
theorem La {i:Id}{c:CV}:∀{l:List (Id×AQ)}{j:Id},Ag (PV i c l) j=(Ag l j).map (AQ.sub i c)
 | [],j=>rfl
 | (k,v)::r,j=>by
  show (match Id.beq k j with | true=>some (v.sub i c) | false=>Ag (PV i c r) j)=(match Id.beq k j with | true=>some v | false=>Ag r j).map (AQ.sub i c)
  cases Id.beq k j with
  | true=>rfl
  | false=>exact La
def Qa (i:Id) (x:D) (σ:St):St:=⟨RU i (.d x) σ.slots,DQ (PV i (.d x) σ.heap) i .gone,σ.next⟩
theorem SQ {σ:St}{i:Id}{x:D}{ob:AQ}(hi:Ag σ.heap i=some ob) (hob:Cd ob)
  (hr:∀{C:Cx} {g:Ac} {w:World},Db w C.X g (Ag σ.heap)→(∀b o,BN (zone g (Cf (Ag σ.heap) i (.d x) none)) C.X b o→BN (zone g (Ag σ.heap)) C.X b o)→(∀b o,Bi (g i) b→¬BN (zone g (Cf (Ag σ.heap) i (.d x) none)) C.X b o)→
   ∀y v,isM i (.d x) y→BM w (BN (zone g (Ag σ.heap)) C.X) g (Ag σ.heap) y v→Aj w (BN (zone g (Cf (Ag σ.heap) i (.d x) none)) C.X) x v∧x.isAgg=false):CG σ (Qa i x σ):=by
 rintro C a w ⟨g,R⟩
 have R2:=R.swap (F':=fun n=>σ.next≤n) hi hob (c:=.d x) (nw:=none) (fun _ _ e=>by cases e) (fun k hk=>⟨hk,fun _ _ e=>by cases e⟩) (fun hz hg y v hm r=>hr R.heap hz (hg rfl) y v hm r)
 refine⟨g,?_⟩
 have e1:Ay (Qa i x σ).slots=fun t=>(Ay σ.slots t).sub i (.d x):=by funext t;exact LZ
 have e2:Ag (Qa i x σ).heap=Cf (Ag σ.heap) i (.d x) none:=by
  funext j
  show Ag (DQ (PV i (.d x) σ.heap) i .gone) j=_
  rw[Cr]
  simp only[AX,Cf,La]
 show Ap C (fun n=>σ.next≤n) (Ay (Qa i x σ).slots) (Ag (Qa i x σ).heap) g a w
 rw[e1,e2]
 exact R2
theorem PW {σ:St}{i:Id}{kd:Kd}{ag:Bool}{sz:Nat}{rows:List D}(hi:Ag σ.heap i=some (.tree kd ag sz rows none)) (hk:kd= .row∨kd= .flat):CG σ (Qa i (.list ag sz rows) σ):=by
 refine SQ hi trivial fun RH hz hg y v hm r=>⟨?_,rfl⟩
 rename_i C g w
 have ho:=RH.objs i _ hi
 have hv:v=gval (g i):=by
  cases y<;>first | exact (hm:False).elim | skip
  ·rename_i j n
   obtain⟨rfl,_⟩:=hm
   obtain⟨⟨b,hb⟩,_⟩:=r
   obtain⟨vs,_,h1,_⟩:=ho.1
   rw[hb]at h1;cases h1
  ·rename_i j
   obtain rfl:j=i:=hm
   exact r.2.2 (by rw[hi];rfl)
 rw[hv]
 obtain⟨ht,h0,hf,xs,hx,_,U,T,h1,h2,h3,h4,h5⟩:=ho
 rcases hk with rfl | rfl
 ·exact ((IP (show IL .row ag sz rows=some (.list ag sz rows)from rfl)).1 (RH.objs i _ hi)).2.aX hg
 ·obtain⟨e,hl,hx⟩:=hx
  rcases hx with⟨hv,hn⟩ | ⟨q,cap,cur,hv,_,hh,hnc,hcm,hcs,htake⟩
  ·have:rows=[]:=List.eq_nil_of_length_eq_zero hn
   subst this
   rw[hv]
   exact .list ag sz [] none 0 0 0 (fun _ _=>undef) (Nat.le_refl _) (Nat.zero_le _) (by simp) (by simp) (by simp) (by simp)
  ·rw[hv]
   refine .list ag sz rows _ cap q 0 U hnc hcm hf (fun _=>rfl) (fun k r j c hr hc=>?_) (fun k r j c hr hc=>?_)
   ·obtain⟨p1,_⟩:=h1 k r j c (fun _ _ h=>by cases h) hr hc
    refine⟨?_,fun hz'=>hg q _ ((h5 q).2 (.inl (by rw[hv];rfl))) hz'⟩
    rw[←htake,List.getElem?_take]at p1
    split at p1
    ·rw[Nat.zero_add]
     simpa [World.cell?,hh] using p1
    ·cases p1
   ·obtain⟨_,p2⟩:=h1 k r j c (fun _ _ h=>by cases h) hr hc
    exact (((C0.fz rfl).1 p2).1.1).mono fun b o u hu hn=>⟨hu,fun hz'=>hn (hz b o hz')⟩
end
end Go.AM
namespace Go.AM
open Go Go.RowKit
theorem Ap.Y2 {C:Cx}{F:Nat→Prop}{s:Af}{h:Heap}{g:Ac}{a:Act}{w:World}(R:Ap C F s h g a w) {n:Nat}(hf:F n) (ag:Bool) {sz:Nat}(hsz:0<sz):
  ∃g',Ap C (fun k=>F k∧k≠n) s (AX h (.loc n) (.tree .row ag sz [] none)) g' a w∧BM w (BN (zone g' (AX h (.loc n) (.tree .row ag sz [] none))) C.X) g' (AX h (.loc n) (.tree .row ag sz [] none)) (.ow (.loc n)) (.slice none 0 0):=
 R.Qw (T0:=[]) (by simp) hf ⟨rfl,rfl,rfl,Nat.le_refl _⟩ (fun _ _ _=>rfl) hsz (⟨0,World.ownsRow_nil w 0 0 sz⟩:Holds w .row sz (.slice none 0 0) ([]:List D).length []) (Dv.nil w ag sz) (fun b hb=>hb.elim) (by simp[blk]) (by simp)
def Lb (i:Id) (j:Nat) (ag:Bool) (sz:Nat) (σ:St):St:=
 match Ag σ.heap i with
 | some (.cells cs)=>⟨σ.slots,DQ (DQ σ.heap (.loc σ.next) (.tree .row ag sz [] none)) i (.cells (LY cs j (.ow (.loc σ.next)))),σ.next+32⟩
 | _=>σ
theorem Mr {i:Id}{j:Nat}{ag:Bool}{sz:Nat}{σ:St}{cs:List CV}(hsz:Nat.blt 0 sz=true) (hi:Ag σ.heap i=some (.cells cs)) (hj:cs[j]?=some (.nils ag sz)):CG σ (Lb i j ag sz σ):=by
 rintro C a w ⟨g,R⟩
 obtain⟨g',R',hl⟩:=R.Y2 (n:=σ.next) (Nat.le_refl _) ag (sz:=sz) (by simp[Nat.blt]at hsz;omega)
 have hne:i≠ .loc σ.next:=by
  rintro rfl
  have:=(R.free σ.next (Nat.le_refl _)).2
  rw[this]at hi;cases hi
 have hi':AX (Ag σ.heap) (.loc σ.next) (.tree .row ag sz [] none) i=some (.cells cs):=by simp[AX,hne,hi]
 obtain⟨b,c,et,hb,hh,hsz2,hr⟩:=R'.heap.objs i _ hi'
 have R2:=R'.store (cs':=cs.set j (.ow (.loc σ.next))) hi' hb hh (c':=c) (by simp[hsz2]) (fun k x u hx hu=>by
  by_cases hk:k=j
  ·subst hk
   have hlt:k<cs.length:=(List.getElem?_eq_some_iff.1 hj).1
   rw[List.getElem?_set_self hlt]at hx
   cases hx
   have:=hr k _ u hj hu
   rw[show u=_ from this]
   exact hl
  ·rw[List.getElem?_set_ne (by omega)]at hx
   exact hr k x u hx hu)
 have hw:w.setRow b c=w:=setRow_self w b c _ _ hh
 rw[hw]at R2
 have R3:=R2.BH (F':=fun n=>σ.next+32≤n) (fun n hn=>⟨by omega,by omega⟩)
 refine⟨g',?_⟩
 simp only[Lb,hi,Cr,Jw]
 exact R3
theorem Ap.flatten {C:Cx}{F:Nat→Prop}{s:Af}{h:Heap}{g:Ac}{a:Act}{w:World}(R:Ap C F s h g a w) {i:Id}{ag:Bool}{sz:Nat}{rows:List D}(hi:h i=some (.tree .row ag sz rows none)):
  ∃g',Ap C F s (AX h i (.tree .flat ag sz rows none)) g' a w:=by
 obtain⟨ht,h0,hf,xs,hx,_,U,T,h1,h2,h3,h4,h5⟩:=R.heap.objs i _ hi
 obtain⟨gv,gt,gg,gb⟩:=Rv (gval (g i)) (blk (gval (g i))).toList (fun b=>blk (gval (g i))=some b) (fun b hb=>by simp[hb])
 have hsub:∀b,Bi gv b→Bi (g i) b:=fun b hb=>(h5 b).2 (.inl ((gb b).1 hb))
 have hX:∀b o,Bi (g i) b→¬Bi gv b→¬BN (zone (Au g i gv) (AX h i (.tree .flat ag sz rows none))) C.X b o:=by
  rintro b o hb hnb (⟨j,ob,hj,h6⟩ | hx)
  ·by_cases hji:j=i
   ·subst hji
    simp only[AX,if_pos,Option.some.injEq]at hj
    subst hj
    have h6:Bi (Au g j gv j) b:=h6
    simp only[Au,if_pos]at h6
    exact hnb h6
   ·simp only[AX,if_neg hji]at hj
    simp only[Au,if_neg hji]at h6
    exact hji (R.heap.sep j i ob _ b hj hi h6.G4 hb)
  ·exact R.heap.apart i _ b o hi hb hx
 refine⟨Au g i gv,R.Jg (fun j=>j=i) (fun j hj=>by simp[AX,Au,hj]) ?_ ?_ ?_ ?_ ?_ ?_ ?_ ?_⟩
 ·rintro j rfl
  exact .inr (.inl ⟨ht,by simpa [Au] using gt,by simp[Au,gg]⟩)
 ·rintro j rfl _ _
  rw[hi];rfl
 ·rintro j ob rfl ho
  simp only[AX,if_pos,Option.some.injEq]at ho
  exact .inl ⟨_,_,_,_,_,ho.symm⟩
 ·rintro j o rfl ho EC ED
  simp only[AX,if_pos,Option.some.injEq]at ho
  subst ho
  have e1:Au g j gv j=gv:=by simp[Au]
  rw[e1]
  refine U7 gt h0 hf (xs:=xs) (by rw[gg];exact hx) (fun k r q c hr hc=>?_) (fun b=>by rw[gb,gg])
  obtain⟨p1,p2⟩:=h1 k r q c (fun _ _ h=>by cases h) hr hc
  refine⟨_,p1,((C0.own rfl).1 p2).aX fun b o hb=>hX b o ((h5 b).2 (.inr ⟨k,q,hb⟩)) fun hb'=>h3 k q b hb ((gb b).1 hb')⟩
 ·rintro j ob b rfl ho hb
  simp only[AX,if_pos,Option.some.injEq]at ho
  subst ho
  have hb:Bi (Au g j gv j) b:=hb
  simp only[Au,if_pos]at hb
  exact⟨j,_,rfl,hi,fun o=>hsub b hb⟩
 ·rintro j k _ _ _ rfl rfl _ _ _ _
  rfl
 ·rintro j rfl
  exact .inr ⟨ht,by simpa [Au] using gt,by simp[Au,gg]⟩
 ·intro n hn
  have:=R.free n hn
  have hne:Id.loc n≠i:=by rintro rfl;rw[this.2]at hi;cases hi
  exact⟨by simp[Au,hne,this.1],by simp[AX,hne,this.2]⟩
theorem Ap.drop {C:Cx}{F:Nat→Prop}{s:Af}{h:Heap}{g:Ac}{a:Act}{w:World}(R:Ap C F s h g a w) {i:Id}{ob:AQ}(hi:h i=some ob):Ap C F s (AX h i .gone) g a w:=by
 refine R.Jg (fun j=>j=i) (fun j hj=>by simp[AX,hj]) ?_ ?_ ?_ ?_ ?_ ?_ ?_ ?_
 ·rintro j rfl
  exact .inl rfl
 ·rintro j rfl _ hl
  simp[AX,isLive]at hl
 ·rintro j ob' rfl ho
  simp[AX]at ho
  exact .inr ho.symm
 ·rintro j o rfl ho _ _
  simp[AX]at ho
  subst ho
  trivial
 ·rintro j ob' b rfl ho hb
  simp[AX]at ho
  subst ho
  exact hb.elim
 ·rintro j k _ _ _ rfl rfl _ _ _ _
  rfl
 ·intro j _
  exact .refl _
 ·intro n hn
  have:=R.free n hn
  have hne:Id.loc n≠i:=by rintro rfl;rw[this.2]at hi;cases hi
  exact⟨this.1,by simp[AX,hne,this.2]⟩
inductive Gh where
 | close (i:Id)
 | treeC (i:Id) (j:Nat) (ag:Bool) (sz:Nat)
 | tokC (i:Id) (j:Nat) (ag:Bool) (sz:Nat) (e:TypeId)
 | freeze (i:Id)
def Xv:Kd→Bool
 | .row=>true
 | .flat=>true
 | _=>false
def gh:List Gh→St→(St→Prop)→Prop
 | [],σ,K=>K σ
 | x::r,σ,K=>match x with
  | .close i=>H3 (Ag σ.heap) [i] fun _ _ wr=>gh r ⟨σ.slots,F0 σ.heap wr,σ.next⟩ K
  | .treeC i j ag sz=>Bq (Nat.blt 0 sz)<| (match Ag σ.heap i with
   | some (.cells cs)=>Bq (GR ag sz (PS cs j))<| gh r (Lb i j ag sz σ) K
   | _=>False)
  | .tokC i j ag sz e=>Bq (Nat.blt 0 sz)<| (match Ag σ.heap i with
   | some (.cells cs)=>Bq (GR ag sz (PS cs j))<| gh r (Kh i j ag sz e σ) K
   | _=>False)
  | .freeze i=>(match Ag σ.heap i with
   | some (.tree kd ag sz rows foc)=>(match foc with
    | none=>Bq (Xv kd)<| gh r (Qa i (.list ag sz rows) σ) K
    | some _=>False)
   | _=>False)
theorem Eb {K:St→Prop}:∀{l:List Gh}{σ:St},gh l σ K→∃σ',CG σ σ'∧K σ'
 | [],σ,h=>⟨σ,CG.refl σ,h⟩
 | .close i::r,σ,h=>by
  simp only[gh,H3]at h
  split at h
  ·rename_i kd ag sz rows k cs hi
   obtain⟨hnf,h⟩:=AR.1 h
   obtain⟨ds,iss,h,hdl,hol,hcl⟩:=G8 h
   split at h
   ·rename_i hnd
    split at h
    ·rename_i hag
     obtain⟨rows',hrows,h⟩:=h
     obtain⟨σ',hw,hk⟩:=Eb h
     refine⟨σ',CG.trans (fun C a w R=>?_) hw,hk⟩
     obtain⟨g,R⟩:=R
     obtain⟨g',R'⟩:=R.Um hi (J9.1 hnf) hdl hol (DA.1 hnd) (fun e=>by rw[e]at hag;simpa using hag) hcl hrows
     refine⟨g',?_⟩
     simp only[D6,List.append_nil]
     exact R'
    ·exact h.elim
   ·exact h.elim
  ·exact h.elim
 | .treeC i j ag sz::r,σ,h=>by
  obtain⟨h1,h⟩:=AR.1 h
  split at h
  ·rename_i cs hi
   obtain⟨h2,h⟩:=AR.1 h
   obtain⟨σ',h3,h4⟩:=Eb h
   exact⟨σ',CG.trans (Mr h1 hi (Ij h2)) h3,h4⟩
  ·exact h.elim
 | .tokC i j ag sz e::r,σ,h=>by
  obtain⟨h1,h⟩:=AR.1 h
  split at h
  ·rename_i cs hi
   obtain⟨h2,h⟩:=AR.1 h
   obtain⟨σ',h3,h4⟩:=Eb h
   exact⟨σ',CG.trans (Ii h1 hi (Ij h2)) h3,h4⟩
  ·exact h.elim
 | .freeze i::r,σ,h=>by
  simp only[gh]at h
  split at h
  ·rename_i kd ag sz rows foc hi
   split at h
   ·obtain⟨h1,h⟩:=AR.1 h
    obtain⟨σ',h3,h4⟩:=Eb h
    exact⟨σ',CG.trans (PW hi (by cases kd<;>simp[Xv]at h1 ⊢)) h3,h4⟩
   ·exact h.elim
  ·exact h.elim
end Go.AM
namespace Go.AM
open Go Go.RowKit
def slotsOf:List V1→Nat→List (Nat×AV)
 | [],_=>[]
 | x::r,i=>(i,.v x)::slotsOf r (i+1)
def CA:List AQ→Nat→List (Id×AQ)
 | [],_=>[]
 | x::r,i=>(.ext i,x)::CA r (i+1)
theorem KF:∀(l:List V1) (i t:Nat),Ay (slotsOf l i) t= .u∨∃x,i≤t∧l[t - i]?=some x∧Ay (slotsOf l i) t= .v x
 | [],i,t=>.inl rfl
 | x::r,i,t=>by
  show Ay ((i,.v x)::slotsOf r (i+1)) t=_∨∃y,i≤t∧(x::r)[t - i]?=some y∧Ay ((i,.v x)::slotsOf r (i+1)) t= .v y
  rw[Ca]
  simp only[]
  split
  ·subst t;exact .inr ⟨x,Nat.le_refl _,by simp,rfl⟩
  ·rcases KF r (i+1) t with h | ⟨y,h1,h2,h3⟩
   ·exact .inl h
   ·refine .inr ⟨y,by omega,?_,h3⟩
    rw[show t - i=(t - (i+1))+1 from by omega]
    simpa using h2
theorem Lc:∀(l:List AQ) (i:Nat) (x:Id) (o:AQ),Ag (CA l i) x=some o→∃j,x= .ext j∧i≤j∧l[j - i]?=some o
 | [],i,x,o,h=>by simp[CA,Ag]at h
 | y::r,i,x,o,h=>by
  rw[show CA (y::r) i=(.ext i,y)::CA r (i+1)from rfl,Cb]at h
  simp only[AX]at h
  split at h
  ·simp at h;subst h;subst x;exact⟨i,rfl,Nat.le_refl _,by simp⟩
  ·obtain⟨j,h1,h2,h3⟩:=Lc r (i+1) x o h
   refine⟨j,h1,by omega,?_⟩
   rw[show j - i=(j - (i+1))+1 from by omega]
   simpa using h3
theorem Ld:∀(l:List AQ) (i j:Nat),Ag (CA l i) (.ext (i+j))=l[j]?
 | [],i,j=>by simp[CA,Ag]
 | y::r,i,j=>by
  rw[show CA (y::r) i=(.ext i,y)::CA r (i+1)from rfl,Cb]
  simp only[AX]
  cases j with
  | zero=>simp
  | succ j=>
   rw[if_neg (by simp),show i+(j+1)=i+1+j from by omega,Ld r (i+1) j]
   simp
def HI (ti:Types) (σ:St):List ResultVar→(List V1→Prop)→Prop
 | [],K=>K []
 | .tmp t::r,K=>HM (Ay σ.slots t) fun x=>HI ti σ r fun xs=>K (x.norm::xs)
 | .cell a t::r,K=>EV ti t (Ay σ.slots a) (Ag σ.heap) fun out=>HM out.val fun x=>HI ti σ r fun xs=>K (x.norm::xs)
def TK:List V1→AV
 | [x]=>.v x
 | xs=>.t xs
def Cs (nm:List Id) (N:Nat):Id→Id
 | .ext j=>.ext j
 | .loc k=>match nm[k]? with
  | some n=>n
  | none=>.loc N
def N8:AQ→Bool
 | .gone=>true
 | _=>false
theorem NT {o:AQ}(h:N8 o=true):o= .gone:=by cases o<;>first | rfl | simp[N8]at h
def EG (h:Heap) (r:Id→Id):List AQ→Nat→Prop
 | [],_=>True
 | o::l,j=>match N8 o with
  | true=>EG h r l (j+1)
  | false=>h (.ext j)=some (o.BW r)∧EG h r l (j+1)
def KG (h:Heap) (r:Id→Id):List AQ→List Id→Prop
 | [],[]=>True
 | o::l,n::nm=>h n=some (o.BW r)∧KG h r l nm
 | _,_=>False
def El (post:List AQ):List Id→Prop
 | []=>True
 | .loc _::l=>El post l
 | .ext j::l=>match post[j]? with
  | some o=>match N8 o with
   | true=>El post l
   | false=>False
  | none=>False
def Lf (ti:Types) (rs:List ResultVar) (σ:St) (res:AV) (post new:List AQ):Prop:=
 ∃gs,gh gs σ fun σ=>HI ti σ rs fun xs=>∃nm:List Id,nodupB nm=true∧TK xs=res.BW (Cs nm σ.next)∧EG (Ag σ.heap) (Cs nm σ.next) post 0∧KG (Ag σ.heap) (Cs nm σ.next) new nm∧El post nm
theorem Lg {h:Heap}{r:Id→Id}:∀{l:List AQ}{i j:Nat}{o:AQ},EG h r l i→l[j]?=some o→o= .gone∨h (.ext (i+j))=some (o.BW r)
 | o::l,i,0,_,hp,hj=>by
  simp at hj
  subst hj
  unfold EG at hp
  split at hp
  ·rename_i hg;exact .inl (NT hg)
  ·exact .inr hp.1
 | o::l,i,j+1,_,hp,hj=>by
  simp at hj
  have hp':EG h r l (i+1):=by
   unfold EG at hp
   split at hp
   ·exact hp
   ·exact hp.2
  have:=Lg (j:=j) hp' hj
  rw[show i+(j+1)=i+1+j from by omega]
  exact this
theorem E9 {h:Heap}{r:Id→Id}:∀{l:List AQ}{nm:List Id}{j:Nat}{o:AQ},KG h r l nm→l[j]?=some o→∃n,nm[j]?=some n∧h n=some (o.BW r)
 | o::l,n::nm,0,_,hp,hj=>by simp at hj;subst hj;exact⟨n,rfl,hp.1⟩
 | o::l,n::nm,j+1,_,hp,hj=>by
  simp at hj
  obtain⟨m,h1,h2⟩:=E9 (j:=j) hp.2 hj
  exact⟨m,by simpa using h1,h2⟩
 | [],[],j,_,_,hj=>by simp at hj
 | [],_::_,_,_,hp,_=>hp.elim
 | _::_,[],_,_,hp,_=>hp.elim
theorem NU {h:Heap}{r:Id→Id}:∀{l:List AQ}{nm:List Id},KG h r l nm→nm.length=l.length
 | o::l,n::nm,hp=>by simp[NU hp.2]
 | [],[],_=>rfl
 | [],_::_,hp=>hp.elim
 | _::_,[],hp=>hp.elim
theorem IA {post:List AQ}:∀{nm:List Id}{k j:Nat},El post nm→nm[k]?=some (.ext j)→post[j]?=some .gone
 | [],k,j,_,h=>by simp at h
 | n::nm,0,j,hp,h=>by
  simp at h
  subst h
  simp only[El]at hp
  split at hp
  ·rename_i o ho
   split at hp
   ·rename_i hg;rw[ho,NT hg]
   ·exact hp.elim
  ·exact hp.elim
 | n::nm,k+1,j,hp,h=>by
  simp at h
  refine IA (k:=k) ?_ h
  cases n with
  | loc=>exact hp
  | ext i=>
   simp only[El]at hp
   split at hp
   ·split at hp
    ·exact hp
    ·exact hp.elim
   ·exact hp.elim
section
variable {C:Cx}{ti:Types}{σ:St}{g:Ac}{a:Act}{w:World}{F:Nat→Prop}
theorem VH (hti:BV C.P ti) (h1:Bo ti) (R:Ap C F (Ay σ.slots) (Ag σ.heap) g a w) {p:Tmp}{t:TypeId}{k:Out→Prop}
  (hk:EV ti t (Ay σ.slots p) (Ag σ.heap) k):∃out v ad,k out∧a.tmps.getD p undef= .pointer (some ad)∧(loadVar t ad).run C.P w= .ok v w∧BG w (BN (zone g (Ag σ.heap)) C.X) g (Ag σ.heap) out.val v:=by
 obtain⟨out,hko,_,H⟩:=HB (C:=C) hti h1 t _ hk
 obtain⟨v,hv,hr⟩:=H F _ _ g a w _ R (R.slots p) (fun _ _=>rfl)
 refine⟨out,v,?_⟩
 revert hv
 generalize a.tmps.getD p undef=u
 intro hv
 cases u with
 | pointer ad=>
  cases ad with
  | none=>simp[Instr.loadAt,Instr.sureAddr]at hv
  | some ad=>exact⟨ad,hko,rfl,by simpa [Instr.loadAt,Instr.sureAddr] using hv,hr⟩
 | _=>simp[Instr.loadAt,Instr.sureAddr]at hv
def Lh (tmps:Array Value):ResultVar→Sem Value
 | .tmp t=>pure (tmps.getD t undef)
 | .cell a t=>do loadVar t (←asAddr (tmps.getD a undef))
theorem Em (hti:BV C.P ti) (h1:Bo ti) (R:Ap C F (Ay σ.slots) (Ag σ.heap) g a w):∀(rs:List ResultVar) (K:List V1→Prop),HI ti σ rs K→
  ∃xs vs,K xs∧(rs.mapM (Lh a.tmps)).run C.P w= .ok vs w∧vs.length=xs.length∧∀(j:Nat) x v,xs[j]?=some x→vs[j]?=some v→BE w (BN (zone g (Ag σ.heap)) C.X) g (Ag σ.heap) x v
 | [],K,hk=>⟨[],[],hk,rfl,rfl,by simp⟩
 | .tmp t::r,K,hk=>by
  obtain⟨y,hy,hk⟩:=DH.1 hk
  obtain⟨xs,vs,h2,h3,h4,h5⟩:=Em hti h1 R r _ hk
  refine⟨y.norm::xs,a.tmps.getD t undef::vs,h2,by simp[List.mapM_cons,Lh,h3],by simp[h4],fun j x v hx hv=>?_⟩
  match j with
  | 0=>
   simp only[List.getElem?_cons_zero,Option.some.injEq]at hx hv
   subst hx;subst hv
   have:=R.slots t
   rw[hy]at this
   exact BE.norm this
  | j+1=>simp at hx hv;exact h5 j x v hx hv
 | .cell p t::r,K,hk=>by
  obtain⟨out,v0,ad,hk,hp,hl,hr⟩:=VH hti h1 R hk
  obtain⟨y,hy,hk⟩:=DH.1 hk
  obtain⟨xs,vs,h2,h3,h4,h5⟩:=Em hti h1 R r _ hk
  refine⟨y.norm::xs,v0::vs,h2,by simp only[List.mapM_cons,Lh,hp,asAddr];simp[hl,h3],by simp[h4],fun j x v hx hv=>?_⟩
  match j with
  | 0=>
   simp only[List.getElem?_cons_zero,Option.some.injEq]at hx hv
   subst hx;subst hv
   rw[hy]at hr
   exact BE.norm hr
  | j+1=>simp at hx hv;exact h5 j x v hx hv
theorem PX {fn:Func}{vs:List Value}(h:(fn.results.toList.mapM (Lh a.tmps)).run C.P w= .ok vs w):
  (results fn a.tmps).run C.P w= .ok (if h:vs.toArray.size=1 then vs.toArray[0]else .tuple vs.toArray) w:=by
 have e:results fn a.tmps=(do let vs ←fn.results.mapM (Lh a.tmps);pure (if h:vs.size=1 then vs[0]else .tuple vs)):=by
  unfold results
  congr 1
 rw[e,Array.mapM_eq_mapM_toList,Sem.run_bind,Sem.run_map,h]
 rfl
end
def BS.of (P:Program) (I:Inv):BS where
 I:=I
 P:=P
 split:=fun c A=>A c
 split_iff:=fun _ _=>Iff.rfl
 lock:=fun p=>p ()
 lock_iff:=fun _=>Iff.rfl
 eqI:=fun a b=>a==b
 eqI_eq:=fun _ _=>rfl
 ltI:=fun a b=>decide (a<b)
 ltI_eq:=fun _ _=>rfl
 leI:=fun a b=>decide (a≤b)
 leI_eq:=fun _ _=>rfl
 eqS:=fun a b=>a.toList==b.toList
 eqS_eq:=fun _ _=>rfl
 ltS:=fun a b=>Op.bytesLess a.toList b.toList
 ltS_eq:=fun _ _=>rfl
 lenI:=fun l=>l.length
 lenI_eq:=fun _=>rfl
 szI:=fun s=>s.size
 szI_eq:=fun _=>rfl
theorem finish {C:Cx}{σ:St}{g2:Ac}{a:Act}{w':World}{X:Av}{post new:List AQ}{nm:List Id}(R2:Ap C (fun n=>σ.next≤n) (Ay σ.slots) (Ag σ.heap) g2 a w') (hX:∀b o,X b o→C.X b o)
  (hnd:nm.Nodup) (hpost:EG (Ag σ.heap) (Cs nm σ.next) post 0) (hnewo:KG (Ag σ.heap) (Cs nm σ.next) new nm) (hhand:El post nm):
  Db w' X (fun i=>g2 (Cs nm σ.next i)) (Bf post new)∧(∀i ob b o,Bf post new i=some ob→Bg (g2 (Cs nm σ.next i)) ob b o→∃j ob',Ag σ.heap j=some ob'∧Bg (g2 j) ob' b o)∧
   (∀k,new.length≤k→g2 (Cs nm σ.next (.loc k))=undef)∧
   ∀(x:AV) v,BG w' (BN (zone g2 (Ag σ.heap)) C.X) g2 (Ag σ.heap) (x.BW (Cs nm σ.next)) v→BG w' (BN (zone (fun i=>g2 (Cs nm σ.next i)) (Bf post new)) X) (fun i=>g2 (Cs nm σ.next i)) (Bf post new) x v:=by
 have live:∀i o,Bf post new i=some o→o= .gone∨Ag σ.heap (Cs nm σ.next i)=some (o.BW (Cs nm σ.next)):=by
  intro i o hi
  cases i with
  | ext j=>have:=Lg hpost hi;rw[Nat.zero_add]at this;exact this
  | loc k=>
   obtain⟨n,hn,ho⟩:=E9 hnewo hi
   exact .inr (by simpa [Cs,hn] using ho)
 have hz:∀b o,BN (zone (fun i=>g2 (Cs nm σ.next i)) (Bf post new)) X b o→BN (zone g2 (Ag σ.heap)) C.X b o:=by
  rintro b o (⟨i,ob,hi,h1⟩ | hx)
  ·rcases live i ob hi with rfl | ho
   ·exact h1.elim
   ·exact .inl ⟨_,_,ho,CX.2 h1⟩
  ·exact .inr (hX b o hx)
 have ht:∀i n sz e,Bf post new i=some (.tok n sz e)→Ag σ.heap (Cs nm σ.next i)=some (.tok n sz e):=fun i n sz e hi=>(live i _ hi).resolve_left (by simp)
 have hw:∀i,isLive (Bf post new i)=true→isLive (Ag σ.heap (Cs nm σ.next i))=true:=by
  intro i hi
  cases ho:Bf post new i with
  | none=>rw[ho]at hi;cases hi
  | some o=>
   rw[ho]at hi
   rcases live i o ho with rfl | h
   ·cases hi
   ·rw[h]
    exact C9.trans hi
 have hN:=R2.free σ.next (Nat.le_refl _)
 refine⟨⟨fun i o hi=>?_,fun i j oi oj b hi hj bi bj=>?_,fun i oi b o hi bi=>?_⟩,fun i ob b o hi hb=>?_,fun k hk=>?_,fun x v h=>BG.pull (r:=Cs nm σ.next) (g:=g2) (h:=Ag σ.heap) hz (fun _=>rfl) ht hw h⟩
 ·rcases live i o hi with rfl | ho
  ·trivial
  ·exact Bd.pull (r:=Cs nm σ.next) hz (fun _=>rfl) ht hw (R2.heap.objs _ _ ho)
 ·rcases live i oi hi with rfl | ho
  ·exact bi.elim
  rcases live j oj hj with rfl | ho'
  ·exact bj.elim
  have e:=R2.heap.sep _ _ _ _ b ho ho' (Cp.2 bi) (Cp.2 bj)
  cases i with
  | ext i=>
   cases j with
   | ext j=>simpa [Cs] using e
   | loc k=>
    obtain⟨n,hn,_⟩:=E9 hnewo hj
    simp only[Cs,hn]at e
    subst e
    have:=IA hhand hn
    rw[show Bf post new (.ext i)=post[i]? from rfl,this]at hi
    cases hi
    exact bi.elim
  | loc k=>
   obtain⟨n,hn,_⟩:=E9 hnewo hi
   cases j with
   | ext j=>
    simp only[Cs,hn]at e
    subst e
    have:=IA hhand hn
    rw[show Bf post new (.ext j)=post[j]? from rfl,this]at hj
    cases hj
    exact bj.elim
   | loc k'=>
    obtain⟨n',hn',_⟩:=E9 hnewo hj
    simp only[Cs,hn,hn']at e
    subst e
    rw[(List.getElem?_inj (List.getElem?_eq_some_iff.1 hn).1 hnd).1 (hn.trans hn'.symm)]
 ·rcases live i oi hi with rfl | ho
  ·exact bi.elim
  ·intro hx
   exact R2.heap.apart _ _ b o ho (Cp.2 bi) (hX b o hx)
 ·rcases live i ob hi with rfl | ho
  ·exact hb.elim
  ·exact⟨_,_,ho,CX.2 hb⟩
 ·have:nm[k]?=none:=by simp[NU hnewo];omega
  simp only[Cs,this]
  exact hN.1
theorem KH {P:Program}{fn:Func}{tmps:Array Value}{R:Ending→World→Prop}:∀(ds:List Nat) (w:World),ds.Nodup→(∀r∈ds,w.heap[r]?=some (.deferred (some [])))→
  LeavesIn Fence.wide 0 P fn tmps R [] .returning (ds.foldl (fun w r=>w.putObj r (.deferred none)) w)→LeavesInM Fence.wide 0 P fn tmps R (ds.map GC) .returning w
 | [],w,_,_,h=>h
 | r::ds,w,hn,hd,h=>by
  refine⟨by simp,.inl ⟨r,_,rfl,run_takeDeferred (hd r (by simp)),?_⟩⟩
  refine KH ds _ (List.nodup_cons.1 hn).2 (fun r' hr'=>?_) h
  exact (World.putObj_heap_other (by rintro rfl;exact (List.nodup_cons.1 hn).1 hr')).trans (hd r' (by simp[hr']))
theorem KI:∀(ds:List Nat) (w:World),De (fun b=>b∈ds) w (ds.foldl (fun w r=>w.putObj r (.deferred none)) w)
 | [],w=>⟨rfl,rfl,rfl,Nat.le_refl _,fun _ _ _=>rfl⟩
 | r::ds,w=>by
  have:=KI ds (w.putObj r (.deferred none))
  refine⟨this.os,this.tape,this.output,by simpa using this.size,fun b hb hn=>?_⟩
  simp only[List.mem_cons,not_or]at hn
  exact (this.block b (by simpa using hb) hn.2).trans (World.putObj_heap_other hn.1)
theorem Li:∀(ds:List Nat) (w:World),(ds.foldl (fun w r=>w.putObj r (.deferred none)) w).heap.size=w.heap.size
 | [],_=>rfl
 | r::ds,w=>by
  have:=Li ds (w.putObj r (.deferred none))
  rw[World.putObj_size]at this
  exact this
theorem Ap.turned {C:Cx}{F:Nat→Prop}{s:Af}{h:Heap}{g:Ac}{a a':Act}{w w':World}(R:Ap C F s h g a w) {B:Nat→Prop}(A:De B w w') (hs:w'.heap.size=w.heap.size) (hB:∀b o,B b→C.X b o) (hI:∀b,C.M.I.blocks b→¬B b) (ht:a'.tmps=a.tmps) (ro:Option Nat)
  (hro:∀l,ro=some l→(∃L,w'.heap[l]?=some (.loop L))∧∀o,C.X l o) (hd:a'.defers=[]):
  ∃C2:Cx,C2.M=C.M∧C2.nt=C.nt∧C2.X=C.X∧C2.ro=ro∧C2.w0=w'∧C2.Z0=zone g h∧C2.g0=g∧C2.D=[]∧Ap C2 F s h g a' w':=by
 have hX:∀b o,C.X b o→b<w.heap.size:=fun b o hx=>Nat.lt_of_lt_of_le (R.xs b o hx) R.frame.size
 have noz:∀b,(∀o,C.X b o)→∀o,¬zone g h b o:=by
  rintro b hx o ⟨i,ob,hi,hz⟩
  exact R.heap.apart i ob b o hi hz.G4 (hx o)
 have hinv:C.M.I.at w' (BN (zone g h) C.X):=by
  obtain⟨i1,i2⟩:=R.inv
  refine⟨C.M.I.same (fun b hb=>A.block b (i2 b hb).1 (hI b hb)) i1,fun b hb=>⟨by rw[hs];exact (i2 b hb).1,(i2 b hb).2⟩⟩
 refine⟨{M:=C.M,nt:=C.nt,w0:=w',Z0:=zone g h,X:=C.X,g0:=g,hinv:=hinv,ro:=ro,D:=[],hro:=fun l hl=>⟨(hro l hl).1,noz l (hro l hl).2⟩,hD:=by simp,hDn:=List.nodup_nil},rfl,rfl,rfl,rfl,rfl,rfl,rfl,rfl,?_⟩
 refine R.Oe A rfl rfl (fun i o hi=>.inl hi) (fun b o hb=>.inr (hB b o hb)) ?_ (fun b o hx=>.inl (.inr hx)) (fun b o hx=>by rw[hs];exact hX b o hx) (fun i ob b o hi hb hx=>R.heap.apart i ob b o hi hb hx) rfl (fun b o hz=>hz) (fun j=>.refl _) ht hd (fun n hn=>(R.free n hn).2)
 intro i ob b hi hb hBb
 exact R.heap.apart i ob b 0 hi hb (hB b 0 hBb)
theorem Lj {C:Cx}{P:Program}{sl:List (Nat×AV)}{pre:List AQ}{g:Ac}{a:Act}{w:World}(hsz:a.tmps.size=C.nt) (hd:a.defers=C.D.map GC) (hsl:∀t,BG w (BN (zone g (BD pre)) C.X) g (BD pre) (Ay sl t) (a.tmps.getD t undef))
  (RH:Db w C.X g (BD pre)) (hw0:C.w0=w) (hg0:C.g0=g) (hZ:∀b o,zone g (BD pre) b o→C.Z0 b o) (hX:∀b o,C.X b o→b<w.heap.size) (hg:∀n,g (.loc n)=undef):B0 C ⟨sl,CA pre 0,0⟩ a w:=by
 have hh:Ag (CA pre 0)=BD pre:=by
  funext i
  cases i with
  | ext j=>have:=Ld pre 0 j;rw[Nat.zero_add]at this;exact this
  | loc n=>
   cases hc:Ag (CA pre 0) (.loc n)with
   | none=>rfl
   | some o=>obtain⟨j,e,_⟩:=Lc pre 0 _ o hc;simp at e
 refine⟨g,?_⟩
 rw[hh]
 exact⟨hsz,hd,hsl,RH,by rw[hw0];exact Bl.refl _ _,fun j=>by rw[hg0];exact .refl _,fun j ob b o hj hz=>.inl (hZ b o ⟨_,_,hj,hz⟩),by rw[hw0];exact hX,fun n _=>⟨hg n,rfl⟩⟩
theorem EU.intro {P:Program}{I:Inv}{ti:Types}(dr:BS→Nat→SJ) (hti:BV P ti) (h1:Bo ti) (hdr:∀C:Cx,C.P=P→H7 C (dr C.M C.nt)) {f:FuncId}{fn:Func}{c:Code}(hf:P.funcs[f]?=some fn) (hb:fn.body=some c)
  (hname:(fn.name== "runtime.NumGoroutine")=false) {args:List V1} {pre:List AQ} {Q:AV→List AQ→List AQ→Prop} (hargs:args.length≤fn.ntmps)
  (hx:∀M:BS,M.P=P→M.I=I→exec M ti fn.ntmps (dr M fn.ntmps) c ⟨slotsOf args 0,CA pre 0,0⟩ fun e σ=>match e with
   | .exit _=>False
   | .normal=>∃res post new,Q res post new∧Lf ti fn.results.toList σ res post new
   | .ret=>∃res post new,Q res post new∧Lf ti fn.results.toList σ res post new):EU P I f args pre Q:=by
 refine⟨⟨fn,c,hf,hb,hname⟩,?_⟩
 intro w X g vals hX hI RH hg hsz hargs'
 let C:Cx:={M:=BS.of P I,nt:=fn.ntmps,w0:=w,Z0:=zone g (BD pre),X:=X,g0:=g,hinv:=hI,ro:=none,D:=[],hro:=fun l hl=>(by cases hl),hD:=fun r hr=>(by cases hr),hDn:=List.nodup_nil}
 have R0:B0 C ⟨slotsOf args 0,CA pre 0,0⟩ {tmps:=vals++Array.replicate (fn.ntmps - vals.size) undef,defers:=[]} w:=by
  refine Lj (P:=P) (by simp[C];omega) rfl (fun t=>?_) RH rfl rfl (fun _ _ h=>h) hX hg
  rcases KF args 0 t with h | ⟨x,_,h2,h3⟩
  ·rw[h];trivial
  ·rw[h3]
   simp only[Nat.sub_zero]at h2
   have hlt:t<vals.size:=by rw[hsz];exact (List.getElem?_eq_some_iff.1 h2).1
   have:(vals++Array.replicate (fn.ntmps - vals.size) undef).getD t undef=vals[t]:=by
    simp[Array.getElem?_append,hlt]
   show BE w _ g _ x ((vals++Array.replicate (fn.ntmps - vals.size) undef).getD t undef)
   rw[this]
   exact hargs' t x _ h2 (by simp[hlt])
 refine callsIn_wide.1 (callsIn_of_wp_marks (n:=0) hf hb trivial (wpIn_mono (Br (M:=BS.of P I) (ro:=none) hti h1 (fun C hC hn=>by
  have:=hdr C (by show C.M.P=P;rw[hC];rfl)
  rw[hC,hn]at this
  exact this) c _ _ C _ w rfl rfl rfl (hx (BS.of P I) rfl rfl) R0) ?_))
 have fin:∀(C':Cx) (σ:St) (a':Act) (w':World),Df C C'→(∃res post new,Q res post new∧Lf ti fn.results.toList σ res post new)→B0 C' σ a' w'→
   LeavesInM Fence.wide 0 P fn a'.tmps (fun e w'=>∃v g' res post new,Q res post new∧e= .returned v∧E1 w X g pre res post new v w' g') a'.defers .returning w':=by
  rintro C' σ0 a' w' hle ⟨res,post,new,hQ,gs,hfin⟩ R0
  obtain⟨σ,hweak,hfin⟩:=Eb hfin
  obtain⟨g1,R1⟩:=hweak _ _ _ R0
  rw[R1.defers]
  obtain⟨ds,hds,hds2⟩:=hle.marks
  have hds:C'.D=ds:=by rw[hds];exact List.append_nil ds
  refine KH _ _ C'.hDn (fun r hr=>(R1.kept (C'.hD r hr).1 (C'.hD r hr).2).1) ?_
  have A:=KI C'.D w'
  generalize hw2:C'.D.foldl (fun w r=>w.putObj r (.deferred none)) w'=w2 at A ⊢
  have hsz2:w2.heap.size=w'.heap.size:=by rw[←hw2];exact Li _ _
  obtain⟨C2,c1,c2,c3,c4,c5,c6,c7,c8,R2⟩:=R1.turned (a':={tmps:=a'.tmps,defers:=[]}) A hsz2 (fun b o hb=>(hds2 b (hds▸hb)).2 o) (fun b hb hd=>(R1.inv.2 b hb).2 0 (.inr ((hds2 b (hds▸hd)).2 0))) rfl none (fun l hl=>by cases hl) rfl
  have hti2:BV C2.P ti:=by show BV C2.M.P ti;rw[c1,hle.M];exact hti
  have hP:C2.P=P:=by show C2.M.P=P;rw[c1,hle.M];rfl
  obtain⟨xs,vs,⟨nm,hnd,hres,hpost,hnewo,hhand⟩,hrun,hlen,hrel⟩:=Em (C:=C2) hti2 h1 R2 _ _ hfin
  obtain⟨f1,f2,f3,f4⟩:=finish (X:=X) R2 (fun b o hx=>by rw[c3];exact hle.X b o hx) (DA.1 hnd) hpost hnewo hhand
  obtain⟨d1,d2,d3⟩:=hle.down R1
  have hrr:=PX (C:=C2) hrun
  rw[hP]at hrr
  refine⟨_,hrr,_,fun i=>g1 (Cs nm σ.next i),res,post,new,hQ,rfl,⟨f1,?_,?_,fun j=>d2 j,fun i ob b o hi hb=>?_,f3⟩⟩
  ·refine f4 res _ ?_
   rw[←hres]
   have other:xs.length≠1→BG w2 (BN (zone g1 (Ag σ.heap)) C2.X) g1 (Ag σ.heap) (.t xs) (.tuple vs.toArray):=fun _=>
    ⟨vs.toArray,rfl,by simpa using hlen,fun j x v hx hv=>hrel j x v hx (by simpa using hv)⟩
   match xs,vs,hlen,hrel,other with
   | [x],[v],_,hrel,_=>exact hrel 0 x v rfl rfl
   | [],[],_,_,other=>exact other (by simp)
   | x::y::xs,v::u::vs,hl,_,other=>
    have:¬(v::u::vs).toArray.size=1:=by simp
    simp only[dif_neg this]
    exact other (by simp)
  ·exact d1.then (Z':=fun b _=>b∈C'.D) ⟨A.os,A.tape,A.output,A.size,fun b hb hn=>A.block b hb (hn 0),fun b o u hu hn=>A.cell hu hn⟩ (fun p o hp=>.inr (hds2 p (hds▸hp)).1)
  ·obtain⟨j,ob',hj,hz⟩:=f2 i ob b o hi hb
   exact d3 j ob' b o hj hz
 intro e a' w' hq
 cases e with
 | normal=>obtain⟨C',hle,σ,hf',hr⟩:=hq;exact fin C' σ a' w' hle hf' hr
 | ret=>obtain⟨C',hle,σ,hf',hr⟩:=hq;exact fin C' σ a' w' hle hf' hr
 | exit id=>obtain⟨C',hle,σ,hf',hr⟩:=hq;exact hf'.elim
 | goto l=>exact hq.elim
 | panic ch=>exact hq.elim
 | outgrown=>exact hq.elim
end Go.AM
namespace Go.AM
open Go Go.RowKit
def NV:List Tmp→List V1→List (Nat×AV)→List (Nat×AV)
 | p::ps,x::xs,s=>NV ps xs ((p,.v x)::s)
 | _,_,s=>s
theorem PY {ps:Array Tmp}{vals tmps:Array Value}:(Dw ps vals tmps).size=tmps.size:=by
 unfold Dw
 rw[←Array.foldl_toList]
 generalize (ps.zip vals).toList=l
 induction l generalizing tmps with
 | nil=>rfl
 | cons x l ih=>
  simp only[List.foldl_cons]
  exact ih.trans (by simp)
theorem NW {w:World}{Z:Av}{g:Ac}{h:Heap}:∀{ps:List Tmp}{xs:List V1}{vs:List Value}{s:List (Nat×AV)}{tmps:Array Value},xs.length=ps.length→vs.length=xs.length→(∀p∈ps,p<tmps.size)→
  (∀(j:Nat) x v,xs[j]?=some x→vs[j]?=some v→BE w Z g h x v)→(∀t,BG w Z g h (Ay s t) (tmps.getD t undef))→
  ∀t,BG w Z g h (Ay (NV ps xs s) t) (((ps.zip vs).foldl (fun t x=>t.setIfInBounds x.1 x.2) tmps).getD t undef)
 | [],[],[],s,tmps,_,_,_,_,hs=>hs
 | p::ps,x::xs,v::vs,s,tmps,h1,h2,h3,h4,hs=>by
  refine NW (ps:=ps) (xs:=xs) (vs:=vs) (by simpa using h1) (by simpa using h2) (fun q hq=>by simpa using h3 q (by simp[hq])) (fun j x v hx hv=>h4 (j+1) x v (by simpa using hx) (by simpa using hv)) ?_
  intro t
  rw[Ca]
  simp only[]
  split
  ·subst t
   have:=h3 p (by simp)
   rw[Array.getD_eq_getD_getElem?,Array.getElem?_setIfInBounds_self_of_lt this]
   exact h4 0 x v rfl rfl
  ·rename_i hne
   rw[Array.getD_eq_getD_getElem?,Array.getElem?_setIfInBounds_ne (Ne.symm hne),←Array.getD_eq_getD_getElem?]
   exact hs t
 | [],_::_,_,_,_,h1,_,_,_,_=>by simp at h1
 | _::_,[],_,_,_,h1,_,_,_,_=>by simp at h1
 | [],[],_::_,_,_,_,h2,_,_,_=>by simp at h2
 | _::_,_::_,[],_,_,_,h2,_,_,_=>by simp at h2
def Di:B1→Jump
 | .normal=>none
 | .ret=>some none
 | .exit id=>some (some id)
def VI (σ:St) (post new:List AQ):Prop:=
 ∃gs,gh gs σ fun σ=>∃nm:List Id,nodupB nm=true∧EG (Ag σ.heap) (Cs nm σ.next) post 0∧KG (Ag σ.heap) (Cs nm σ.next) new nm∧El post nm
theorem Dg.intro {P:Program}{I:Inv}{ti:Types}(dr:BS→Nat→SJ) (hti:BV P ti) (h1:Bo ti) (hdr:∀C:Cx,C.P=P→H7 C (dr C.M C.nt)) {r:RF}{sl:List (Nat×AV)}{args:List V1}{pre:List AQ}{Q:Jump→List AQ→List AQ→Prop}
  (hlen:args.length=r.params.size) (hps:Ci (fun p=>Nat.blt p r.nt) r.params.toList=true)
  (hx:∀M:BS,M.P=P→M.I=I→exec M ti r.nt (dr M r.nt) r.assign ⟨NV r.params.toList args sl,CA pre 0,0⟩ fun e σ=>match e with
   | .normal=>exec M ti r.nt (dr M r.nt) r.body σ fun e σ=>∃post new,Q (Di e) post new∧VI σ post new
   | _=>False):Dg P I r sl args pre Q:=by
 refine⟨hlen,?_⟩
 intro l L w X g vals hX hXl hl l1 l2 l3 l4 l5 l6 hI RH hg hsz hargs hsl
 have hlt:l<w.heap.size:=(Array.getElem?_eq_some_iff.1 hl).1
 have noz:∀{X:Av} {w:World} {g:Ac} {h:Heap},Db w X g h→(∀o,X l o)→∀o,¬zone g h l o:=by
  rintro X w g h RH hx o ⟨i,ob,hi,hz⟩
  exact RH.apart i ob l o hi hz.G4 (hx o)
 let C:Cx:={M:=BS.of P I,nt:=r.nt,w0:=w,Z0:=zone g (BD pre),X:=X,g0:=g,hinv:=hI,ro:=some l,D:=[],hro:=fun l' hl'=>(by cases hl';exact⟨⟨L,hl⟩,noz RH hXl⟩),hD:=fun r hr=>(by cases hr),hDn:=List.nodup_nil}
 have hdr':∀C':Cx,C'.M=BS.of P I→C'.nt=r.nt→H7 C' (dr (BS.of P I) r.nt):=fun C' hC hn=>by
  have:=hdr C' (by show C'.M.P=P;rw[hC];rfl)
  rw[hC,hn]at this
  exact this
 have R0:B0 C ⟨NV r.params.toList args sl,CA pre 0,0⟩ {tmps:=Dw L.params vals L.tmps,defers:=[]} w:=by
  refine Lj (P:=P) (by show (Dw L.params vals L.tmps).size=r.nt;rw[PY];exact l6) rfl (fun t=>?_) RH rfl rfl (fun _ _ h=>h) hX hg
  have:=NW (ps:=r.params.toList) (xs:=args) (vs:=vals.toList) (s:=sl) (tmps:=L.tmps) (by simpa using hlen) (by simpa using hsz) (fun p hp=>by
   have:=Ba.1 hps p hp
   rw[l6]
   exact Nat.lt_of_succ_le (by simpa [Nat.blt] using this)) (fun j x v hx hv=>hargs j x v hx (by simpa using hv)) hsl t
  show BG _ _ _ _ _ ((Dw L.params vals L.tmps).getD t undef)
  unfold Dw
  rw[l3,←Array.foldl_toList,Array.toList_zip]
  exact this
 have h1x:=hx (BS.of P I) rfl rfl
 refine roundIn_of_wpIn (F:=Fence.wide) trivial ?_
 rw[l4,l5]
 refine wpIn_mono (Br (M:=BS.of P I) (ro:=some l) hti h1 hdr' r.assign _ _ C _ w rfl rfl rfl h1x R0) ?_
 intro e a1 w1 hq
 cases e with
 | normal=>
  obtain⟨C1,hle,σ1,hk1,g1,R1⟩:=hq
  obtain⟨d1,d2,d3⟩:=hle.down R1
  have hXl1:∀o,C1.X l o:=fun o=>hle.X l o (hXl o)
  have hl1:w1.heap[l]?=some (.loop L):=(d1.block l hlt (noz RH hXl)).trans hl
  have hlt1:l<w1.heap.size:=(Array.getElem?_eq_some_iff.1 hl1).1
  refine⟨w1.putObj l (.loop {L with state:=.busy}),run_beginRound hl1 l1,?_⟩
  have A:De (fun b=>b=l) w1 (w1.putObj l (.loop {L with state:=.busy})):=⟨rfl,rfl,rfl,by simp,fun b _ hb=>World.putObj_heap_other hb⟩
  have hl2:(w1.putObj l (.loop {L with state:=.busy})).heap[l]?=some (.loop {L with state:=.busy}):=World.putObj_heap_same hlt1
  obtain⟨C2,c1,c2,c3,c4,c5,c6,c7,c8,R2⟩:=R1.turned (a':={tmps:=a1.tmps,defers:=[]}) A World.putObj_size (fun b o hb=>by subst hb;exact hXl1 o) (fun b hb hd=>(R1.inv.2 b hb).2 0 (.inr (by subst hd;exact hXl1 0))) rfl (some l) (fun l' hl'=>by cases hl';exact⟨⟨_,hl2⟩,hXl1⟩) rfl
  have ha1:a1={tmps:=a1.tmps,defers:=[]}:=by
   have hd:=R1.defers
   rw[hle.same (by simp[C])]at hd
   show a1=⟨a1.tmps,[]⟩
   rw[←show a1.defers=[]from hd]
  rw[ha1]
  refine wpIn_mono (Br (M:=BS.of P I) (ro:=some l) hti h1 hdr' r.body σ1 _ C2 _ _ (c1.trans hle.M) (c2.trans hle.nt) c4 hk1 ⟨g1,R2⟩) ?_
  have fin:∀(e:B1) (a2:Act) (w3:World),(∃C3,Df C2 C3∧∃σ,(∃post new,Q (Di e) post new∧VI σ post new)∧B0 C3 σ a2 w3)→
    ∃v w',(Instr.endRound l ((Di e).map EB)).run P w3= .ok v w'∧∃jump g' post new,Q jump post new∧Ending.returned v= .returned (.bool jump.isNone)∧NJ l L w X g pre jump post new w' g':=by
   rintro e a2 w3 ⟨C3,hle3,σ0,⟨post,new,hQ,gs,hfin⟩,R3⟩
   obtain⟨σ,hweak,nm,hnd,hpost,hnewo,hhand⟩:=Eb hfin
   obtain⟨g3,R3⟩:=hweak _ _ _ R3
   obtain⟨f1,f2,f3⟩:=hle3.down R3
   have hXl3:∀o,C3.X l o:=fun o=>hle3.X l o (by rw[c3];exact hXl1 o)
   have hz2:∀o,¬C2.Z0 l o:=by rw[c6];exact noz R1.heap hXl1
   have hl3:w3.heap[l]?=some (.loop {L with state:=.busy}):=by
    have:=f1.block l (by rw[c5,World.putObj_size];exact hlt1) hz2
    rw[c5]at this
    exact this.trans hl2
   have hlt3:l<w3.heap.size:=(Array.getElem?_eq_some_iff.1 hl3).1
   refine⟨_,_,run_endRound _ hl3,?_⟩
   have A3:De (fun b=>b=l) w3 (w3.putObj l (.loop {L with state:=if ((Di e).map EB).isNone then .ready else .done,pending:=(Di e).map EB})):=⟨rfl,rfl,rfl,by simp,fun b _ hb=>World.putObj_heap_other hb⟩
   obtain⟨C4,k1,k2,k3,k4,k5,k6,k7,k8,R4⟩:=R3.turned (a':={tmps:=a2.tmps,defers:=[]}) A3 World.putObj_size (fun b o hb=>by subst hb;exact hXl3 o) (fun b hb hd=>(R3.inv.2 b hb).2 0 (.inr (by subst hd;exact hXl3 0))) rfl none (fun l' hl'=>by cases hl') rfl
   obtain⟨q1,q2,q3,_⟩:=finish (X:=X) R4 (fun b o hx=>by rw[k3];exact hle3.X b o (by rw[c3];exact hle.X b o hx)) (DA.1 hnd) hpost hnewo hhand
   have isn:((Di e).map EB).isNone=(Di e).isNone:=by cases Di e<;>rfl
   have zin:∀b o,C2.Z0 b o→zone g (BD pre) b o∨w.heap.size≤b:=by
    intro b o hz
    rw[c6]at hz
    obtain⟨i,ob,hi,h3⟩:=hz
    exact d3 i ob b o hi h3
   have fr:Bl (fun b o=>zone g (BD pre) b o∨b=l) w (w3.putObj l (.loop {L with state:=if ((Di e).map EB).isNone then .ready else .done,pending:=(Di e).map EB})):=by
    have s1:Bl (fun b o=>zone g (BD pre) b o∨b=l) w w1:=d1.weaken (fun b o h=>.inl h)
    have one:∀{a b:World},De (fun b=>b=l) a b→Bl (fun b _=>b=l) a b:=fun A=>⟨A.os,A.tape,A.output,A.size,fun b hb hn=>A.block b hb (fun e=>hn 0 e),fun b o u hu hn=>A.cell hu hn⟩
    have s2:=s1.then (one A) (fun p o h=>.inl (.inr h))
    have s3:=s2.then (by have:=f1;rw[c5]at this;exact this) (fun p o h=>(zin p o h).imp .inl id)
    exact s3.then (one A3) (fun p o h=>.inl (.inr h))
   refine⟨Di e,fun i=>g3 (Cs nm σ.next i),post,new,hQ,by rw[isn],⟨q1,fr,?_,fun j=>?_,fun i ob b o hi hb=>?_,q3⟩⟩
   ·rw[World.putObj_heap_same hlt3,isn]
   ·have e1:=d2 j
    have e2:=f2 j
    rw[c7]at e2
    exact e1.trans e2
   ·obtain⟨j,ob',hj,hz⟩:=q2 i ob b o hi hb
    rcases f3 j ob' b o hj hz with h | h
    ·exact zin b o h
    ·rw[c5,World.putObj_size]at h
     exact .inr (Nat.le_trans d1.size h)
  intro e a2 w3 hq
  cases e with
  | normal=>exact fin .normal a2 w3 hq
  | ret=>exact fin .ret a2 w3 hq
  | exit id=>exact fin (.exit id) a2 w3 hq
  | goto l=>exact hq.elim
  | panic ch=>exact hq.elim
  | outgrown=>exact hq.elim
 | exit id=>obtain⟨_,_,_,hk,_⟩:=hq;exact hk.elim
 | ret=>obtain⟨_,_,_,hk,_⟩:=hq;exact hk.elim
 | goto l=>exact hq.elim
 | panic ch=>exact hq.elim
 | outgrown=>exact hq.elim
end Go.AM
namespace Go.AM
open Go Go.RowKit
theorem Qb {P:Program}{ti:Types}(hti:BV P ti) (h1:Bo ti) (hm:P.follows .mixedOrders=true):∀C:Cx,C.P=P→H7 C (CH ti C.M C.nt):=fun C hC=>by
 have hti':BV C.P ti:=by rw[hC];exact hti
 have hm':C.P.follows .mixedOrders=true:=by rw[hC];exact hm
 exact RT hti' h1 hm'
theorem EU.of {P:Program}{I:Inv}{ti:Types}(hti:BV P ti) (h1:Bo ti) (hm:P.follows .mixedOrders=true) {f:FuncId}{fn:Func}{c:Code}(hf:P.funcs[f]?=some fn) (hb:fn.body=some c)
  (hname:(fn.name== "runtime.NumGoroutine")=false) {args:List V1} {pre:List AQ} {Q:AV→List AQ→List AQ→Prop} {nt:Nat} (hnt:fn.ntmps=nt) (hargs:Nat.ble args.length nt=true) {rs:List ResultVar} (hrs:fn.results.toList=rs)
  (hx:∀M:BS,M.P=P→M.I=I→exec M ti nt (CH ti M nt) c ⟨slotsOf args 0,CA pre 0,0⟩ fun e σ=>match e with
   | .exit _=>False
   | .normal=>∃res post new,Q res post new∧Lf ti rs σ res post new
   | .ret=>∃res post new,Q res post new∧Lf ti rs σ res post new):EU P I f args pre Q:=by
 subst hnt
 subst hrs
 exact EU.intro (fun M nt=>CH ti M nt) hti h1 (Qb hti h1 hm) hf hb hname (Nat.le_of_ble_eq_true hargs) hx
theorem AW.of {P:Program}{I:Inv}{ti:Types}(hti:BV P ti) (h1:Bo ti) (hm:P.follows .mixedOrders=true) {f:FuncId}{fn:Func}{c:Code}(hf:P.funcs[f]?=some fn) (hb:fn.body=some c)
  (hname:(fn.name== "runtime.NumGoroutine")=false) {args:List V1} {pre post new:List AQ} {res:AV} {nt:Nat} (hnt:fn.ntmps=nt) (hargs:Nat.ble args.length nt=true) {rs:List ResultVar} (hrs:fn.results.toList=rs)
  (hx:∀M:BS,M.P=P→M.I=I→exec M ti nt (CH ti M nt) c ⟨slotsOf args 0,CA pre 0,0⟩ fun e σ=>match e with
   | .exit _=>False
   | .normal=>∃r p n,(r=res∧p=post∧n=new)∧Lf ti rs σ r p n
   | .ret=>∃r p n,(r=res∧p=post∧n=new)∧Lf ti rs σ r p n):AW P I f args pre res post new:=
 EU.of hti h1 hm hf hb hname hnt hargs hrs hx
theorem AF {ti:Types}{rs:List ResultVar}{σ:St}{res:AV}{post new:List AQ}(h:HI ti σ rs fun xs=>∃nm:List Id,nodupB nm=true∧TK xs=res.BW (Cs nm σ.next)∧EG (Ag σ.heap) (Cs nm σ.next) post 0∧KG (Ag σ.heap) (Cs nm σ.next) new nm∧El post nm):
  ∃r p n,(r=res∧p=post∧n=new)∧Lf ti rs σ r p n:=⟨_,_,_,⟨rfl,rfl,rfl⟩,[],h⟩
theorem EU.at {P:Program}{I:Inv}{M:BS}{f:FuncId}{args:List V1}{pre:List AQ}{Q:AV→List AQ→List AQ→Prop}(hP:M.P=P) (hI:M.I=I) (h:EU P I f args pre Q):EU M.P M.I f args pre Q:=by rw[hP,hI];exact h
theorem Dg.of {P:Program}{I:Inv}{M:BS}(hP:M.P=P) (hI:M.I=I) {ti:Types}(hti:BV P ti) (h1:Bo ti) (hm:P.follows .mixedOrders=true) {r:RF}{sl:List (Nat×AV)}{args:List V1}{pre:List AQ}{Q:Jump→List AQ→List AQ→Prop}{nt:Nat}{ps:List Tmp}{ca cb:Code}
  (hnt:r.nt=nt) (hpl:r.params.toList=ps) (ha:r.assign=ca) (hb:r.body=cb) (hlen:args.length=ps.length) (hps:Ci (fun p=>Nat.blt p nt) ps=true)
  (hx:∀M:BS,M.P=P→M.I=I→exec M ti nt (CH ti M nt) ca ⟨NV ps args sl,CA pre 0,0⟩ fun e σ=>match e with
   | .normal=>exec M ti nt (CH ti M nt) cb σ fun e σ=>∃post new,Q (Di e) post new∧VI σ post new
   | _=>False):Dg M.P M.I r sl args pre Q:=by
 subst hnt
 subst hpl
 subst ha
 subst hb
 rw[hP,hI]
 exact Dg.intro (fun M nt=>CH ti M nt) hti h1 (Qb hti h1 hm) (by simpa using hlen) hps hx
section
variable {M:BS}{A:Bool→Prop}
theorem Ah {a b:Int}(h1:a=b→A true) (h0:a≠b→A false):M.split (M.eqI a b) A:=by
 rw[M.split_iff,M.eqI_eq]
 by_cases h:a=b
 ·rw[beq_iff_eq.2 h];exact h1 h
 ·rw[beq_eq_false_iff_ne.2 h];exact h0 h
theorem Aa {a b:Int}(h1:a<b→A true) (h0:b≤a→A false):M.split (M.ltI a b) A:=by
 rw[M.split_iff,M.ltI_eq]
 by_cases h:a<b
 ·rw[decide_eq_true h];exact h1 h
 ·rw[decide_eq_false h];exact h0 (by omega)
theorem TL {a b:Int}(h:¬a<b) (h0:A false):M.split (M.ltI a b) A:=Aa (fun e=>absurd e h) (fun _=>h0)
theorem BJ {a b:Int}(h1:a≤b→A true) (h0:b<a→A false):M.split (M.leI a b) A:=by
 rw[M.split_iff,M.leI_eq]
 by_cases h:a≤b
 ·rw[decide_eq_true h];exact h1 h
 ·rw[decide_eq_false h];exact h0 (by omega)
theorem Bb {a b:ByteArray}(h1:(a.toList==b.toList)=true→A true) (h0:(a.toList==b.toList)=false→A false):M.split (M.eqS a b) A:=by
 rw[M.split_iff,M.eqS_eq]
 cases h:(a.toList==b.toList)
 ·exact h0 h
 ·exact h1 h
end
section
variable {M:BS}{f:FuncId}{args:List V1}{fresh:Nat}{h:Heap}{k:Out→Prop}{targs:List V1}{res:AV}
theorem AE {P:Program}{I:Inv}(hP:M.P=P) (hI:M.I=I) (ht:AW P I f targs [] res [] []) (he:args=targs.map (V1.BW (Bh [] fresh))) (hk:k ⟨res.BW (Bh [] fresh),[],[]⟩):
  M.lock fun _=>Ka M.P M.I f args fresh h k:=
 (M.lock_iff _).2 ⟨[],targs,[],res,[],[],hP▸hI▸ht,he,rfl,List.nodup_nil,by simp,trivial,by simp,hk⟩
theorem Qc {ti:Types}{o:Oper}{c:Call}{x:Operand}{s:Af}(ho:o.op= .call c) (hc:c.callee= .value x) (hk:LB h (fun h'=>CM M ti o fresh s h') k):Fk M ti o fresh s h k:=by
 unfold Fk
 rw[ho]
 simp only[]
 rw[hc]
 exact .inr (.inl hk)
theorem AD {ti:Types}{o:Oper}{c:Call}{x:Operand}{s:Af}{X:Prop}(ho:o.op= .call c) (hc:c.callee= .value x) (hk:CM M ti o fresh s h k):M.lock fun _=>Fk M ti o fresh s h k∨X:=
 (M.lock_iff _).2<| .inl<| Qc ho hc ⟨[],hk⟩
theorem VJ {A X:Prop}(hk:X):M.lock fun _=>A∨X:=(M.lock_iff _).2 (.inr hk)
def PZ (h:Heap) (r:Id→Id):List Id→List AQ→Prop
 | [],[]=>True
 | i::m,o::pre=>h i=some (o.BW r)∧PZ h r m pre
 | _,_=>False
theorem Dj {r:Id→Id}:∀{m:List Id}{pre:List AQ},PZ h r m pre→m.length=pre.length∧∀(j:Nat) i o,m[j]?=some i→pre[j]?=some o→h i=some (o.BW r)
 | [],[],_=>⟨rfl,by simp⟩
 | i::m,o::pre,hp=>by
  obtain⟨h1,h2⟩:=Dj hp.2
  refine⟨by simp[h1],fun j i' o' hi ho=>?_⟩
  match j with
  | 0=>simp at hi ho;subst hi;subst ho;exact hp.1
  | j+1=>simp at hi ho;exact h2 j i' o' hi ho
 | [],_::_,hp=>hp.elim
 | _::_,[],hp=>hp.elim
theorem AI {P:Program}{I:Inv}(hP:M.P=P) (hI:M.I=I) (m:List Id) {pre post new:List AQ}(ht:AW P I f targs pre res post new) (he:args=targs.map (V1.BW (Bh m fresh))) (hm:m.Nodup)
  (hpre:PZ h (Bh m fresh) m pre) (hkd:CF pre post) (hn:new.length≤31) (hk:k ⟨res.BW (Bh m fresh),m,Ni m (Bh m fresh) post++DM fresh (Bh m fresh) 0 new⟩):
  M.lock fun _=>Ka M.P M.I f args fresh h k:=
 (M.lock_iff _).2 ⟨m,targs,pre,res,post,new,hP▸hI▸ht,he,(Dj hpre).1,hm,(Dj hpre).2,hkd,hn,hk⟩
end
theorem drawn {M:BS}{p:Unit→Prop}{K:Prop}(hd:p ()) (hk:K):M.lock p∧K:=⟨(M.lock_iff _).2 hd,hk⟩
theorem BF {M:BS}{ex:St→(B1→St→Prop)→Prop}{σ:St}{K:B1→St→Prop}(ks:List Nat) (is:List Id) (nx:Nat) {T:Type}(S:T→St) (I:T→Prop) (m:T→Nat) (t0:T)
  (hI:I t0) (h0:keep ks is nx σ (·=S t0))
  (hr:∀t,I t→ex (S t) fun e σ2=>match e with
   | .normal=>∃n' σ3,n'<m t∧CG σ2 σ3∧∃t',I t'∧n'=m t'∧σ3=S t'
   | .exit id=>K (.exit id) σ2
   | .ret=>K .ret σ2):M.lock fun _=>KC ex σ K∨∃n,EZ M ex K n σ:=by
 refine (M.lock_iff _).2<| .inl ⟨fun n σ=>∃t,I t∧n=m t∧σ=S t,m t0,?_,?_⟩
 ·obtain⟨σ',hw,e⟩:=E6 h0
  exact⟨σ',hw,t0,hI,rfl,e⟩
 ·rintro n σ1 ⟨t,h1,rfl,rfl⟩
  exact hr t h1
theorem SR {M:BS}{ex:St→(B1→St→Prop)→Prop}{σ:St}{K:B1→St→Prop}(ks:List Nat) (is:List Id) (nx:Nat) {T:Type}(S:T→St) (I:T→Prop) (m:T→Nat) (t0:T)
  (hI:I t0) (h0:keep ks is nx σ (·=S t0))
  (hr:∀t,I t→ex (S t) fun e σ2=>match e with
   | .normal=>∃n' σ3,n'<m t∧CG σ2 σ3∧∃t',I t'∧n'=m t'∧σ3=S t'
   | .exit id=>K (.exit id) σ2
   | .ret=>K .ret σ2):M.lock fun _=>KC ex σ K:=by
 refine (M.lock_iff _).2 ⟨fun n σ=>∃t,I t∧n=m t∧σ=S t,m t0,?_,?_⟩
 ·obtain⟨σ',hw,e⟩:=E6 h0
  exact⟨σ',hw,t0,hI,rfl,e⟩
 ·rintro n σ1 ⟨t,h1,rfl,rfl⟩
  exact hr t h1
theorem D7 {M:BS}{ex:St→(B1→St→Prop)→Prop}{σ:St}{K:B1→St→Prop}(tr:List QZ) (ks:List Nat) (is:List Id) (nx:Nat) {T:Type}(S:T→St) (I:T→Prop) (m:T→Nat) (t0:T)
  (hI:I t0) (h0:N6 (fun σ=>keep ks is nx σ (·=S t0)) tr σ)
  (hr:∀t,I t→ex (S t) fun e σ2=>match e with
   | .normal=>∃n' σ3,n'<m t∧CG σ2 σ3∧∃t',I t'∧n'=m t'∧σ3=S t'
   | .exit id=>K (.exit id) σ2
   | .ret=>K .ret σ2):M.lock fun _=>KC ex σ K∨∃n,EZ M ex K n σ:=by
 refine (M.lock_iff _).2<| .inl ⟨fun n σ=>∃t,I t∧n=m t∧σ=S t,m t0,?_,?_⟩
 ·obtain⟨σ1,hw1,h1⟩:=GS h0
  obtain⟨σ',hw,e⟩:=E6 h1
  exact⟨σ',CG.trans hw1 hw,t0,hI,rfl,e⟩
 ·rintro n σ1 ⟨t,h1,rfl,rfl⟩
  exact hr t h1
theorem Pa {M:BS}{ex:St→(B1→St→Prop)→Prop}{σ:St}{K:B1→St→Prop}(n:Nat) (h:EZ M ex K n σ):M.lock fun _=>KC ex σ K∨∃n,EZ M ex K n σ:=(M.lock_iff _).2<| .inr ⟨n,h⟩
theorem An {T:Type}{m:T→Nat}{I:T→Prop}{S:T→St}{σ2:St}{k:Nat}(t':T) (ks:List Nat) (is:List Id) (nx:Nat) (hI:I t') (hm:m t'<k) (hk:keep ks is nx σ2 (·=S t')):
  ∃n' σ3,n'<k∧CG σ2 σ3∧∃t',I t'∧n'=m t'∧σ3=S t':=by
 obtain⟨σ',hw,e⟩:=E6 hk
 exact⟨m t',σ',hm,hw,t',hI,rfl,e⟩
section
variable {M:BS}{L L':List D}{N i:Int}(hN:0≤N∧L.length=N.toNat)
include hN
end
end Go.AM
namespace Go.AM
open Go Go.RowKit
inductive Shape (ti:Types):TypeId→List D→Prop where
 | bool {t x} (b:Bool) (h:ti t=some x) (hd:x.desc= .bool):Shape ti t [.bool b]
 | int {t x k} (n:Int) (h:ti t=some x) (hd:x.desc= .int k) (hw:(Lit.int k n).wf=true):Shape ti t [.int k n]
 | str {t x} (s:ByteArray) (h:ti t=some x) (hd:x.desc= .string) (hs:s.size≤maxLen):Shape ti t [.str s]
 | slice {t x e y} (rows:List D) (h:ti t=some x) (hd:x.desc= .slice e) (he:ti e=some y) (hl:rows.length≤maxLen)
   (hf:∀r∈rows,r.fits (Ax y.desc) y.size) (hr:∀r∈rows,Shape ti e r.cells):Shape ti t [.list (Ax y.desc) y.size rows]
 | struct {t x fs} (ds:List D) (h:ti t=some x) (hd:x.desc= .struct fs) (hl:ds.length=x.size) (hg:∀c∈ds,c.isAgg=false)
   (hr:∀f∈fs.toList,∀y,ti f.type=some y→Shape ti f.type ((ds.drop f.offset).take y.size)):Shape ti t ds
def chain (ti:Types):Nat→List Field→Option Nat
 | off,[]=>some off
 | off,f::r=>if f.offset=off then match ti f.type with
   | some y=>chain ti (off+y.size) r
   | none=>none
  else none
theorem Pb {ti:Types}:∀{fs:List Field}{off tot:Nat},chain ti off fs=some tot→off≤tot∧∀f∈fs,off≤f.offset∧∃y,ti f.type=some y
 | [],off,tot,h=>by simp[chain]at h;subst h;exact⟨Nat.le_refl _,by simp⟩
 | f::fs,off,tot,h=>by
  unfold chain at h
  split at h
  ·rename_i ho
   split at h
   ·rename_i y hy
    obtain⟨h1,h2⟩:=Pb h
    refine⟨by omega,fun f' hf'=>?_⟩
    rcases List.mem_cons.1 hf' with rfl | hf'
    ·exact⟨by omega,y,hy⟩
    ·exact⟨by have:=(h2 f' hf').1;omega,(h2 f' hf').2⟩
   ·simp at h
  ·simp at h
def Lk (ti:Types) (T:List TypeId):Bool:=
 T.all fun t=>match ti t with
  | some x=>match x.desc with
   | .bool | .int _ | .string=>x.size==1
   | .slice e=>T.contains e&&(x.size==1)&&(match ti e with
    | some y=>decide (0<y.size)&&(Ax y.desc || y.size==1)
    | none=>false)
   | .struct fs=>(chain ti 0 fs.toList==some x.size)&&fs.toList.all fun f=>T.contains f.type
   | _=>false
  | none=>false
theorem KJ {Q:Nat→D→Prop}:∀n,(∀i,i<n→∃r,Q i r)→∃l:List D,l.length=n∧∀i r,l[i]?=some r→Q i r
 | 0,_=>⟨[],rfl,by simp⟩
 | n+1,h=>by
  obtain⟨l,h1,h2⟩:=KJ n (fun i hi=>h i (by omega))
  obtain⟨r,hr⟩:=h n (by omega)
  refine⟨l++[r],by simp[h1],fun i r' hi=>?_⟩
  by_cases hl:i<l.length
  ·rw[List.getElem?_append_left hl]at hi;exact h2 i r' hi
  ·rw[List.getElem?_append_right (by omega)]at hi
   have hin:i=n:=by
    by_cases he:i=n
    ·exact he
    ·rw[List.getElem?_eq_none (by simp;omega)]at hi;simp at hi
   subst hin
   rw[h1]at hi
   simp at hi
   subst hi
   exact hr
def Pc (w:World) (Z:Av) (ds:List D) (cs:List Value):Prop:=
 ds.length=cs.length∧(∀c∈ds,c.isAgg=false)∧∀(j:Nat) c u,ds[j]?=some c→cs[j]?=some u→Aj w Z c u
theorem FA {w:World}{Z:Av}{c:D}{u:Value}(hc:c.isAgg=false) (h:Aj w Z c u):Pc w Z [c] [u]:=
 ⟨rfl,by simpa using hc,fun j c' u' h1 h2=>by
  match j with
  | 0=>simp at h1 h2;subst h1;subst h2;exact h
  | j+1=>simp at h1⟩
theorem KK {w:World}{Z:Av}{ti:Types}{cs:List Value}:∀(fs:List Field) (off tot:Nat),chain ti off fs=some tot→tot≤cs.length→
  (∀f∈fs,∀y,ti f.type=some y→∃ds,Shape ti f.type ds∧Pc w Z ds ((cs.drop f.offset).take y.size))→
  ∃ds,Pc w Z ds ((cs.drop off).take (tot - off))∧∀f∈fs,∀y,ti f.type=some y→Shape ti f.type ((ds.drop (f.offset - off)).take y.size)
 | [],off,tot,h,_,_=>by
  simp[chain]at h
  subst h
  exact⟨[],⟨by simp,by simp,by simp⟩,by simp⟩
 | f::fs,off,tot,h,hl,hx=>by
  unfold chain at h
  split at h
  ·rename_i ho
   split at h
   ·rename_i y hy
    obtain⟨hle,hoff⟩:=Pb h
    obtain⟨ds',⟨a1,a2,a3⟩,hs'⟩:=KK fs _ tot h hl (fun f' hf'=>hx f' (List.mem_cons_of_mem _ hf'))
    obtain⟨p,hp,b1,b2,b3⟩:=hx f (by simp) y hy
    rw[ho]at b1 b3
    have hpl:p.length=y.size:=by rw[b1];simp;omega
    refine⟨p++ds',⟨?_,?_,?_⟩,fun f' hf' y' hy'=>?_⟩
    ·simp at a1 ⊢;omega
    ·intro c hc
     rcases List.mem_append.1 hc with hc | hc
     ·exact b2 c hc
     ·exact a2 c hc
    ·intro j c u hc hu
     rw[List.getElem?_take]at hu
     split at hu
     ·rename_i hj
      rw[List.getElem?_drop]at hu
      by_cases hjp:j<p.length
      ·rw[List.getElem?_append_left hjp]at hc
       refine b3 j c u hc ?_
       rw[List.getElem?_take,if_pos (by omega),List.getElem?_drop];exact hu
      ·rw[List.getElem?_append_right (by omega)]at hc
       refine a3 (j - p.length) c u hc ?_
       rw[List.getElem?_take,if_pos (by omega),List.getElem?_drop,←hu]
       congr 1
       omega
     ·simp at hu
    ·rcases List.mem_cons.1 hf' with rfl | hf'
     ·rw[hy]at hy'
      obtain rfl:y=y':=by simpa using hy'
      rw[ho,Nat.sub_self,List.drop_zero,List.take_append_of_le_length (by omega),List.take_of_length_le (by omega)]
      exact hp
     ·have h1:=(hoff f' hf').1
      have:=hs' f' hf' y' hy'
      rw[List.drop_append,List.drop_of_length_le (by omega),List.nil_append]
      rw[show f'.offset - off - p.length=f'.offset - (off+y.size)from by omega]
      exact this
   ·simp at h
  ·simp at h
theorem IB {P:Program}{ti:Types}(hti:BV P ti) {t:TypeId}{x:TI}(h:ti t=some x):P.cellsOf t=x.size:=by
 obtain⟨_,i,h1,h2,_⟩:=hti t x h
 simp[Program.cellsOf,h1,h2]
theorem conv {H:Type}{enc:TypeId×Value→H}{P:Program}{ti:Types}(hti:BV P ti) {T:List TypeId}(hT:Lk ti T=true) {w:World}{base:Nat}{spare:Nat→Bool}{held:Bool}{Z:Av}(hZ:∀b o,¬Z b o):
  ∀(fuel:Nat) (t:TypeId) (cs:List Value) (d:DataW H) (ps:List MemPlace),t∈T→DataW.trod enc P w base spare held fuel t cs=some (d,ps)→∃ds,Shape ti t ds∧Pc w Z ds cs
 | 0,t,cs,d,ps,_,h=>by simp[DataW.trod]at h
 | fuel+1,t,cs,d,ps,ht,h=>by
  have hp:=hT
  unfold Lk at hp
  have hp:=List.all_eq_true.1 hp t ht
  split at hp
  ·rename_i x hx
   have hu:=(hti t x hx).1
   have hcs:=IB hti hx
   split at hp
   ·rename_i hd
    rw[hd]at hu
    unfold DataW.trod at h
    simp only[hu]at h
    split at h<;>simp_all
    exact⟨_,.bool _ hx hd,FA rfl (.bool _)⟩
   ·rename_i k hd
    rw[hd]at hu
    unfold DataW.trod at h
    simp only[hu]at h
    split at h<;>simp_all
    obtain⟨⟨rfl,hw⟩,_⟩:=h
    exact⟨_,.int _ hx hd hw,FA rfl (.int _ _)⟩
   ·rename_i hd
    rw[hd]at hu
    unfold DataW.trod at h
    simp only[hu]at h
    split at h<;>simp_all
    exact⟨_,.str _ hx hd h.1,FA rfl (.str _)⟩
   ·rename_i e hd
    rw[hd]at hu
    simp only[Bool.and_eq_true]at hp
    obtain⟨⟨he,_⟩,hp⟩:=hp
    have he:e∈T:=by simpa using he
    split at hp
    ·rename_i y hy
     simp only[Bool.and_eq_true,decide_eq_true_eq]at hp
     have hey:=IB hti hy
     unfold DataW.trod at h
     simp only[hu]at h
     split at h<;>rename_i hq<;>try cases hq
     ·exact⟨_,.slice [] hx hd hy (by simp) (by simp) (by simp),FA rfl (E0 _ _)⟩
     ·rename_i a len cap
      rw[hey]at h
      split at h
      ·rename_i hg
       obtain⟨elems,he1,_⟩:=Option.bind_eq_some_iff.1 h
       have hel:elems.length=len:=by simpa using mapM_some_length he1
       have each:∀i,i<len→∃cs' ds,(w.cells? base (a.add (i*y.size)) y.size)=some cs'∧Shape ti e ds∧Pc w Z ds cs':=by
        intro i hi
        have h1:=mapM_some_get he1 i i (by simp[hi])
        rw[List.getElem?_eq_getElem (by omega:i<elems.length)]at h1
        obtain⟨cs',h2,h3⟩:=Option.bind_eq_some_iff.1 h1
        obtain⟨ds,h4,h5⟩:=conv hti hT hZ fuel e cs' _ _ he h3
        exact⟨cs',ds,h2,h4,h5⟩
       have hspot:0<len→a.spot=none:=by
        intro hl
        obtain⟨cs',_,h2,_⟩:=each 0 hl
        obtain⟨_,h3,h4⟩:=World.cells?_some h2
        have h5:=h4 0 hp.1
        rw[List.getElem?_eq_getElem (by omega)]at h5
        simp only[Nat.zero_mul,Addr.add,if_true]at h5
        unfold World.cell? at h5
        split at h5
        ·split at h5
         ·cases h5
         ·rename_i hs;simpa using hs
        ·cases h5
       obtain⟨rows,hrl,hrows⟩:=KJ (Q:=fun i r=>r.fits (Ax y.desc) y.size∧Shape ti e r.cells∧∀(j:Nat) c,r.cells[j]?=some c→
         ∃u,w.cell? ⟨a.block,a.off+(i*y.size+j),none⟩=some u∧Aj w Z c u) len (fun i hi=>by
        obtain⟨cs',ds,h2,h3,h4⟩:=each i hi
        obtain⟨_,h5,h6⟩:=World.cells?_some h2
        have hdl:ds.length=y.size:=h4.1.trans h5
        obtain⟨r,hr1,hr2⟩:∃r:D,r.cells=ds∧r.isAgg=Ax y.desc:=by
         cases hrw:Ax y.desc with
         | true=>exact⟨.agg ds,rfl,rfl⟩
         | false=>
          rw[hrw]at hp
          have:y.size=1:=by simpa using hp.2
          obtain⟨c,rfl⟩:=List.length_eq_one_iff.1 (hdl.trans this)
          have hc:=h4.2.1 c (by simp)
          exact⟨c,by cases c<;>first | rfl | simp[D.isAgg]at hc,hc⟩
        refine⟨r,⟨hr2,by rw[hr1,hdl],by rw[hr1];exact h4.2.1⟩,by rw[hr1];exact h3,fun j c hc=>?_⟩
        rw[hr1]at hc
        have hj:j<y.size:=by rw[←hdl];exact (List.getElem?_eq_some_iff.1 hc).1
        have h7:=h6 j hj
        have ha:(a.add (i*y.size)).add j=⟨a.block,a.off+(i*y.size+j),none⟩:=by
         have:=hspot (by omega)
         obtain⟨ab,ao,asp⟩:=a
         simp only at this
         subst this
         unfold Addr.add
         split<;>split<;>simp_all<;>omega
        rw[ha,List.getElem?_eq_getElem (by omega:j<cs'.length)]at h7
        exact⟨_,h7,h4.2.2 j c _ hc (List.getElem?_eq_getElem (by omega:j<cs'.length))⟩)
       refine⟨_,.slice rows hx hd hy (by omega) (fun r hr=>?_) (fun r hr=>?_),FA rfl ?_⟩
       ·obtain⟨i,hi⟩:=List.mem_iff_getElem?.1 hr
        exact (hrows i r hi).1
       ·obtain⟨i,hi⟩:=List.mem_iff_getElem?.1 hr
        exact (hrows i r hi).2.1
       ·rw[←hrl]
        refine .list _ _ rows (some a) cap a.block a.off (fun i j=>(w.cell? ⟨a.block,a.off+(i*y.size+j),none⟩).getD undef) (by omega) hg.2.2 (fun r hr=>?_) (fun hne=>?_) (fun i r j c hr hc=>?_) (fun i r j c hr hc=>?_)
        ·obtain⟨i,hi⟩:=List.mem_iff_getElem?.1 hr
         exact (hrows i r hi).1
        ·have:=hspot (by rw[←hrl];exact List.length_pos_iff.2 hne)
         obtain⟨ab,ao,asp⟩:=a
         simp only at this
         rw[this]
        ·obtain⟨u,hu1,_⟩:=(hrows i r hr).2.2 j c hc
         rw[hu1]
         exact⟨rfl,hZ _ _⟩
        ·obtain⟨u,hu1,hu2⟩:=(hrows i r hr).2.2 j c hc
         rw[hu1]
         exact hu2
      ·cases h
     ·cases h
    ·simp at hp
   ·rename_i fs hd
    rw[hd]at hu
    simp only[Bool.and_eq_true,beq_iff_eq]at hp
    obtain⟨hch,hfs⟩:=hp
    unfold DataW.trod at h
    simp only[hu]at h
    split at h<;>rename_i hq<;>try cases hq
    ·obtain⟨xs,hxs,_⟩:=Option.map_eq_some_iff.1 h
     obtain⟨ds,h1,h2⟩:=KK (w:=w) (Z:=Z) (cs:=cs) fs.toList 0 x.size hch (by omega) (fun f hf y hy=>by
      obtain⟨i,hi⟩:=List.mem_iff_getElem?.1 hf
      have h3:=mapM_some_get hxs i f hi
      have hil:i<xs.length:=by rw[mapM_some_length hxs];exact (List.getElem?_eq_some_iff.1 hi).1
      rw[List.getElem?_eq_getElem hil,IB hti hy]at h3
      have hfT:f.type∈T:=by simpa using List.all_eq_true.1 hfs f hf
      exact conv hti hT hZ fuel f.type _ _ _ hfT h3)
     rw[List.drop_zero,Nat.sub_zero,List.take_of_length_le (by omega)]at h1
     exact⟨ds,.struct ds hx hd (by rw[h1.1];omega) h1.2.1 (fun f hf y hy=>by simpa using h2 f hf y hy),h1⟩
    ·cases h
   ·simp at hp
  ·simp at hp
end Go.AM
namespace Go.AM
open Go
structure VK (L L':List D) (r:Nat→Bool) (R:Bool):Prop where
 len:L.length≠L'.length→R=false
 bad:∀i,i<L.length→i<L'.length→r i=false→R=false
 good:L.length=L'.length→(∀i,i<L.length→r i=true)→R=true
theorem VK.of (L L':List D) (r:Nat→Bool):VK L L' r (decide (L.length=L'.length∧∀i,i<L.length→r i=true)) where
 len h:=by simp[h]
 bad i h1 h2 h:=by
  rw[decide_eq_false_iff_not]
  rintro⟨_,h3⟩
  rw[h3 i h1]at h
  cases h
 good h1 h2:=by rw[decide_eq_true_iff];exact⟨h1,h2⟩
section
variable {ti:Types}{t e:TypeId}{x y:TI}{ds:List D}{fs:Array Field}{k:IntKind}
theorem Shape.Uo (h:Shape ti t ds) (hx:ti t=some x) (hd:x.desc= .bool):∃b,ds=[.bool b]:=by
 cases h<;>simp_all
theorem Shape.Vt (h:Shape ti t ds) (hx:ti t=some x) (hd:x.desc= .int k):∃n,ds=[.int k n]∧(Lit.int k n).wf=true:=by
 cases h<;>simp_all
theorem Shape.Vu (h:Shape ti t ds) (hx:ti t=some x) (hd:x.desc= .string):∃s,ds=[.str s]∧s.size≤maxLen:=by
 cases h<;>simp_all
theorem Shape.Sf (h:Shape ti t ds) (hx:ti t=some x) (hd:x.desc= .slice e) (hy:ti e=some y):
  ∃rows,ds=[.list (Ax y.desc) y.size rows]∧rows.length≤maxLen∧(∀r∈rows,r.fits (Ax y.desc) y.size)∧∀r∈rows,Shape ti e r.cells:=by
 cases h with
 | slice rows h1 h2 h3 h4 h5 h6=>
  rw[hx]at h1
  obtain rfl:=Option.some.inj h1
  rw[hd]at h2
  obtain rfl:=TypeDesc.slice.inj h2
  rw[hy]at h3
  obtain rfl:=Option.some.inj h3
  exact⟨rows,rfl,h4,h5,h6⟩
 | _=>simp_all
theorem Shape.Qx (h:Shape ti t ds) (hx:ti t=some x) (hd:x.desc= .struct fs):
  ds.length=x.size∧(∀c∈ds,c.isAgg=false)∧∀f∈fs.toList,∀y,ti f.type=some y→Shape ti f.type ((ds.drop f.offset).take y.size):=by
 cases h with
 | struct ds h1 h2 h3 h4 h5=>
  rw[hx]at h1
  obtain rfl:=Option.some.inj h1
  rw[hd]at h2
  obtain rfl:=TypeDesc.struct.inj h2
  exact⟨h3,h4,h5⟩
 | _=>simp_all
end
open Classical in
theorem VK.same (L L':List D):VK L L' (fun i=>decide (L[i]?=L'[i]?)) (decide (L=L')) where
 len h:=by rw[decide_eq_false_iff_not];rintro rfl;exact h rfl
 bad i h1 h2 h:=by
  rw[decide_eq_false_iff_not]at h ⊢
  rintro rfl;exact h rfl
 good h1 h2:=by
  rw[decide_eq_true_iff]
  refine List.ext_getElem? fun i=>?_
  by_cases hi:i<L.length
  ·exact of_decide_eq_true (h2 i hi)
  ·rw[List.getElem?_eq_none (by omega),List.getElem?_eq_none (by omega)]
def Bt (ti:Types) (t:TypeId):TI:=
 match ti t with
 | some x=>x
 | none=>⟨.bool,0,0,.bool false,[]⟩
theorem BC {a b:ByteArray}:(a.toList==b.toList)=true↔a=b:=by
 constructor
 ·intro h
  have h:=beq_iff_eq.1 h
  rw[ByteArray.toList_eq,ByteArray.toList_eq]at h
  exact ByteArray.ext (Array.ext' h)
 ·rintro rfl;simp
theorem toList_inj {a b:ByteArray}:a.toList=b.toList↔a=b:=by rw[←BC,beq_iff_eq]
theorem BI {a b:ByteArray}:(a.toList==b.toList)=false↔a≠b:=by
 rw[←Bool.not_eq_true,BC]
end Go.AM
namespace Go.AM
open Go
section
variable {α γ:Type}
def Al (z:Int) (k:Int→Option γ):Option γ:=k z
theorem AN {z:Int}{k:Int→Option γ}{r:γ}(h:Al z k=some r):∃y,z=y∧k y=some r:=⟨z,rfl,h⟩
def Ad (L:List D) (k:Int→Option γ):Option γ:=k L.length
theorem AP (M:BS) {L:List D}{k:Int→Option γ}{r:γ}(h:Ad L k=some r):∃y,M.lenI L=y∧k y=some r:=⟨L.length,M.lenI_eq L,h⟩
def Jh (s:ByteArray) (k:Int→Option γ):Option γ:=k s.size
theorem Bu (M:BS) {s:ByteArray}{k:Int→Option γ}{r:γ}(h:Jh s k=some r):∃y,M.szI s=y∧k y=some r:=⟨s.size,M.szI_eq s,h⟩
def BT (L:List D) (i:Int) (k:D→Option γ):Option γ:=if 0≤i then (match L[i.toNat]? with | some x=>k x | none=>none)else none
theorem Ae {L:List D}{i:Int}{k:D→Option γ}{r:γ}(h:BT L i k=some r):∃x,(0≤i∧L[i.toNat]?=some x)∧k x=some r:=by
 unfold BT at h
 split at h
 ·rename_i h0
  split at h
  ·rename_i x hx
   exact⟨x,⟨h0,hx⟩,h⟩
  ·cases h
 ·cases h
theorem Ct {L:List D}{i:Int}{k:D→Option γ}{x:D}(h0:0≤i) (hx:L[i.toNat]?=some x):BT L i k=k x:=by
 unfold BT
 rw[if_pos h0,hx]
def FB (p:Prop) [Decidable p] (x:Option γ):Option γ:=if p then x else none
theorem FC {p:Prop} [Decidable p] {x:Option γ}{r:γ}(h:FB p x=some r):p∧x=some r:=by
 unfold FB at h
 split at h
 ·rename_i hp
  exact⟨hp,h⟩
 ·cases h
theorem AJ {p:Prop} [Decidable p] {x y r:Option γ}(hp:p) (h:(if p then x else y)=r):x=r:=by rwa [if_pos hp]at h
theorem AK {p:Prop} [Decidable p] {x y r:Option γ}(hp:¬p) (h:(if p then x else y)=r):y=r:=by rwa [if_neg hp]at h
def D3 (b:Nat) (L M:List D) (k:List D→Option γ):Option γ:=if L.length+M.length≤maxLen∧(L.length+M.length)*b≤140737488355328 then k (L++M)else none
theorem B2 {b:Nat}{L M:List D}{k:List D→Option γ}{r:γ}(h:D3 b L M k=some r):∃out,(L.length+M.length≤maxLen∧(L.length+M.length)*b≤140737488355328)∧L++M=out∧k out=some r:=by
 unfold D3 at h
 split at h
 ·rename_i hb
  exact⟨_,hb,rfl,h⟩
 ·cases h
open Classical in
noncomputable def VL (L:List D) (A B:Option γ):Option γ:=if L=[]then (if A=B then B else none)else B
theorem TM {L:List D}{A B:Option γ}{r:γ}(h:VL L A B=some r):B=some r∧(L=[]→A=some r):=by
 unfold VL at h
 split at h
 ·split at h
  ·rename_i e;exact⟨h,fun _=>e▸h⟩
  ·cases h
 ·rename_i hn;exact⟨h,fun e=>absurd e hn⟩
theorem TN {L:List D}{K0 K1:Prop}(h0:K0) (h1:L=[]→K1):(L≠[]→K0)∧(L=[]→K1∧K0):=⟨fun _=>h0,fun e=>⟨h1 e,h0⟩⟩
def Ms (L:List D) (k:List D→Option γ):Option γ:=k L
theorem FD {L:List D}{k:List D→Option γ}{r:γ}(h:Ms L k=some r):∃out,L=out∧k out=some r:=⟨L,rfl,h⟩
def KT (L:List D) (i:Nat) (k:D→Option γ):Option γ:=match L[i]? with | some x=>k x | none=>none
theorem GU {L:List D}{i:Nat}{k:D→Option γ}{r:γ}(h:KT L i k=some r):∃x,L[i]?=some x∧k x=some r:=by
 unfold KT at h
 split at h
 ·rename_i x hx
  exact⟨x,hx,h⟩
 ·cases h
def TO (s:ByteArray) (l u:Int) (k:ByteArray→Option γ):Option γ:=if 0≤l∧l≤u∧u≤(s.size:Int)then k (s.extract l.toNat u.toNat)else none
theorem Ll (M:BS) {s:ByteArray}{l u:Int}{k:ByteArray→Option γ}{r:γ}(h:TO s l u k=some r):∃out,(0≤l∧l≤u∧u≤M.szI s)∧s.extract l.toNat u.toNat=out∧k out=some r:=by
 unfold TO at h
 split at h
 ·rename_i hb
  exact⟨_,by rw[M.szI_eq];exact hb,rfl,h⟩
 ·cases h
def Jx (s:ByteArray) (l:Int) (k:ByteArray→Option γ):Option γ:=if 0≤l∧l≤(s.size:Int)then k (s.extract l.toNat s.size)else none
theorem FQ (M:BS) {s:ByteArray}{l:Int}{k:ByteArray→Option γ}{r:γ}(h:Jx s l k=some r):∃out,(0≤l∧l≤M.szI s∧M.szI s≤M.szI s)∧s.extract l.toNat (M.szI s).toNat=out∧k out=some r:=by
 unfold Jx at h
 split at h
 ·rename_i hb
  exact⟨_,by rw[M.szI_eq];exact⟨hb.1,hb.2,Int.le_refl _⟩,rfl,by rw[M.szI_eq];simpa using h⟩
 ·cases h
def NX (s:ByteArray) (i:Int) (k:Int→Option γ):Option γ:=if 0≤i then (match (s[i.toNat]?).map (fun u=>(u.toNat:Int))with | some z=>k z | none=>none)else none
theorem Cg {s:ByteArray}{i:Int}{k:Int→Option γ}{r:γ}(h:NX s i k=some r):∃z,(0≤i∧(s[i.toNat]?).map (fun u=>(u.toNat:Int))=some z)∧k z=some r:=by
 unfold NX at h
 split at h
 ·rename_i h0
  split at h
  ·rename_i z hz
   exact⟨z,⟨h0,hz⟩,h⟩
  ·cases h
 ·cases h
def bO0 (x:Option Unit) (k:Option γ):Option γ:=match x with | some _=>k | none=>none
theorem VM {x:Option Unit}{k:Option γ}{r:γ}(h:bO0 x k=some r):x=some ()∧k=some r:=by
 cases x with
 | none=>cases h
 | some u=>exact⟨rfl,h⟩
def bO1 {A1:Type}(x:Option (A1)) (k:A1→Option γ):Option γ:=match x with | some p=>k p | none=>none
theorem AG {A1:Type}{x:Option (A1)}{k:A1→Option γ}{r:γ}(h:bO1 x k=some r):∃a1,x=some a1∧k a1=some r:=by
 cases x with
 | none=>cases h
 | some p=>exact⟨_,rfl,h⟩
def bO2 {A1 A2:Type}(x:Option (A1×A2)) (k:A1→A2→Option γ):Option γ:=match x with | some p=>k p.1 p.2 | none=>none
theorem DT {A1 A2:Type}{x:Option (A1×A2)}{k:A1→A2→Option γ}{r:γ}(h:bO2 x k=some r):∃a1 a2,x=some (a1,a2)∧k a1 a2=some r:=by
 cases x with
 | none=>cases h
 | some p=>exact⟨_,_,rfl,h⟩
theorem En {A1 A2:Type}{a1 b1:A1}{a2 b2:A2}(h:some (a1,a2)=some (b1,b2)):a1=b1∧a2=b2:=by
 cases h
 exact⟨rfl,rfl⟩
def bO3 {A1 A2 A3:Type}(x:Option (A1×A2×A3)) (k:A1→A2→A3→Option γ):Option γ:=match x with | some p=>k p.1 p.2.1 p.2.2 | none=>none
theorem D4 {A1 A2 A3:Type}{x:Option (A1×A2×A3)}{k:A1→A2→A3→Option γ}{r:γ}(h:bO3 x k=some r):∃a1 a2 a3,x=some (a1,a2,a3)∧k a1 a2 a3=some r:=by
 cases x with
 | none=>cases h
 | some p=>exact⟨_,_,_,rfl,h⟩
theorem Pd {A1 A2 A3:Type}{a1 b1:A1}{a2 b2:A2}{a3 b3:A3}(h:some (a1,a2,a3)=some (b1,b2,b3)):a1=b1∧a2=b2∧a3=b3:=by
 cases h
 exact⟨rfl,rfl,rfl⟩
def bO4 {A1 A2 A3 A4:Type}(x:Option (A1×A2×A3×A4)) (k:A1→A2→A3→A4→Option γ):Option γ:=match x with | some p=>k p.1 p.2.1 p.2.2.1 p.2.2.2 | none=>none
theorem BR {A1 A2 A3 A4:Type}{x:Option (A1×A2×A3×A4)}{k:A1→A2→A3→A4→Option γ}{r:γ}(h:bO4 x k=some r):∃a1 a2 a3 a4,x=some (a1,a2,a3,a4)∧k a1 a2 a3 a4=some r:=by
 cases x with
 | none=>cases h
 | some p=>exact⟨_,_,_,_,rfl,h⟩
theorem D5 {A1 A2 A3 A4:Type}{a1 b1:A1}{a2 b2:A2}{a3 b3:A3}{a4 b4:A4}(h:some (a1,a2,a3,a4)=some (b1,b2,b3,b4)):a1=b1∧a2=b2∧a3=b3∧a4=b4:=by
 cases h
 exact⟨rfl,rfl,rfl,rfl⟩
def bO5 {A1 A2 A3 A4 A5:Type}(x:Option (A1×A2×A3×A4×A5)) (k:A1→A2→A3→A4→A5→Option γ):Option γ:=match x with | some p=>k p.1 p.2.1 p.2.2.1 p.2.2.2.1 p.2.2.2.2 | none=>none
theorem Bk {A1 A2 A3 A4 A5:Type}{x:Option (A1×A2×A3×A4×A5)}{k:A1→A2→A3→A4→A5→Option γ}{r:γ}(h:bO5 x k=some r):∃a1 a2 a3 a4 a5,x=some (a1,a2,a3,a4,a5)∧k a1 a2 a3 a4 a5=some r:=by
 cases x with
 | none=>cases h
 | some p=>exact⟨_,_,_,_,_,rfl,h⟩
theorem IC {A1 A2 A3 A4 A5:Type}{a1 b1:A1}{a2 b2:A2}{a3 b3:A3}{a4 b4:A4}{a5 b5:A5}(h:some (a1,a2,a3,a4,a5)=some (b1,b2,b3,b4,b5)):a1=b1∧a2=b2∧a3=b3∧a4=b4∧a5=b5:=by
 cases h
 exact⟨rfl,rfl,rfl,rfl,rfl⟩
def bO7 {A1 A2 A3 A4 A5 A6 A7:Type}(x:Option (A1×A2×A3×A4×A5×A6×A7)) (k:A1→A2→A3→A4→A5→A6→A7→Option γ):Option γ:=match x with | some p=>k p.1 p.2.1 p.2.2.1 p.2.2.2.1 p.2.2.2.2.1 p.2.2.2.2.2.1 p.2.2.2.2.2.2 | none=>none
theorem Il {A1 A2 A3 A4 A5 A6 A7:Type}{x:Option (A1×A2×A3×A4×A5×A6×A7)}{k:A1→A2→A3→A4→A5→A6→A7→Option γ}{r:γ}(h:bO7 x k=some r):∃a1 a2 a3 a4 a5 a6 a7,x=some (a1,a2,a3,a4,a5,a6,a7)∧k a1 a2 a3 a4 a5 a6 a7=some r:=by
 cases x with
 | none=>cases h
 | some p=>exact⟨_,_,_,_,_,_,_,rfl,h⟩
theorem TP {A1 A2 A3 A4 A5 A6 A7:Type}{a1 b1:A1}{a2 b2:A2}{a3 b3:A3}{a4 b4:A4}{a5 b5:A5}{a6 b6:A6}{a7 b7:A7}(h:some (a1,a2,a3,a4,a5,a6,a7)=some (b1,b2,b3,b4,b5,b6,b7)):a1=b1∧a2=b2∧a3=b3∧a4=b4∧a5=b5∧a6=b6∧a7=b7:=by
 cases h
 exact⟨rfl,rfl,rfl,rfl,rfl,rfl,rfl⟩
def bO8 {A1 A2 A3 A4 A5 A6 A7 A8:Type}(x:Option (A1×A2×A3×A4×A5×A6×A7×A8)) (k:A1→A2→A3→A4→A5→A6→A7→A8→Option γ):Option γ:=match x with | some p=>k p.1 p.2.1 p.2.2.1 p.2.2.2.1 p.2.2.2.2.1 p.2.2.2.2.2.1 p.2.2.2.2.2.2.1 p.2.2.2.2.2.2.2 | none=>none
theorem FR {A1 A2 A3 A4 A5 A6 A7 A8:Type}{x:Option (A1×A2×A3×A4×A5×A6×A7×A8)}{k:A1→A2→A3→A4→A5→A6→A7→A8→Option γ}{r:γ}(h:bO8 x k=some r):∃a1 a2 a3 a4 a5 a6 a7 a8,x=some (a1,a2,a3,a4,a5,a6,a7,a8)∧k a1 a2 a3 a4 a5 a6 a7 a8=some r:=by
 cases x with
 | none=>cases h
 | some p=>exact⟨_,_,_,_,_,_,_,_,rfl,h⟩
theorem Wv {A1 A2 A3 A4 A5 A6 A7 A8:Type}{a1 b1:A1}{a2 b2:A2}{a3 b3:A3}{a4 b4:A4}{a5 b5:A5}{a6 b6:A6}{a7 b7:A7}{a8 b8:A8}(h:some (a1,a2,a3,a4,a5,a6,a7,a8)=some (b1,b2,b3,b4,b5,b6,b7,b8)):a1=b1∧a2=b2∧a3=b3∧a4=b4∧a5=b5∧a6=b6∧a7=b7∧a8=b8:=by
 cases h
 exact⟨rfl,rfl,rfl,rfl,rfl,rfl,rfl,rfl⟩
def bO15 {A1 A2 A3 A4 A5 A6 A7 A8 A9 A10 A11 A12 A13 A14 A15:Type}(x:Option (A1×A2×A3×A4×A5×A6×A7×A8×A9×A10×A11×A12×A13×A14×A15)) (k:A1→A2→A3→A4→A5→A6→A7→A8→A9→A10→A11→A12→A13→A14→A15→Option γ):Option γ:=match x with | some p=>k p.1 p.2.1 p.2.2.1 p.2.2.2.1 p.2.2.2.2.1 p.2.2.2.2.2.1 p.2.2.2.2.2.2.1 p.2.2.2.2.2.2.2.1 p.2.2.2.2.2.2.2.2.1 p.2.2.2.2.2.2.2.2.2.1 p.2.2.2.2.2.2.2.2.2.2.1 p.2.2.2.2.2.2.2.2.2.2.2.1 p.2.2.2.2.2.2.2.2.2.2.2.2.1 p.2.2.2.2.2.2.2.2.2.2.2.2.2.1 p.2.2.2.2.2.2.2.2.2.2.2.2.2.2 | none=>none
theorem TQ {A1 A2 A3 A4 A5 A6 A7 A8 A9 A10 A11 A12 A13 A14 A15:Type}{x:Option (A1×A2×A3×A4×A5×A6×A7×A8×A9×A10×A11×A12×A13×A14×A15)}{k:A1→A2→A3→A4→A5→A6→A7→A8→A9→A10→A11→A12→A13→A14→A15→Option γ}{r:γ}(h:bO15 x k=some r):∃a1 a2 a3 a4 a5 a6 a7 a8 a9 a10 a11 a12 a13 a14 a15,x=some (a1,a2,a3,a4,a5,a6,a7,a8,a9,a10,a11,a12,a13,a14,a15)∧k a1 a2 a3 a4 a5 a6 a7 a8 a9 a10 a11 a12 a13 a14 a15=some r:=by
 cases x with
 | none=>cases h
 | some p=>exact⟨_,_,_,_,_,_,_,_,_,_,_,_,_,_,_,rfl,h⟩
theorem Xw {A1 A2 A3 A4 A5 A6 A7 A8 A9 A10 A11 A12 A13 A14 A15:Type}{a1 b1:A1}{a2 b2:A2}{a3 b3:A3}{a4 b4:A4}{a5 b5:A5}{a6 b6:A6}{a7 b7:A7}{a8 b8:A8}{a9 b9:A9}{a10 b10:A10}{a11 b11:A11}{a12 b12:A12}{a13 b13:A13}{a14 b14:A14}{a15 b15:A15}(h:some (a1,a2,a3,a4,a5,a6,a7,a8,a9,a10,a11,a12,a13,a14,a15)=some (b1,b2,b3,b4,b5,b6,b7,b8,b9,b10,b11,b12,b13,b14,b15)):a1=b1∧a2=b2∧a3=b3∧a4=b4∧a5=b5∧a6=b6∧a7=b7∧a8=b8∧a9=b9∧a10=b10∧a11=b11∧a12=b12∧a13=b13∧a14=b14∧a15=b15:=by
 cases h
 exact⟨rfl,rfl,rfl,rfl,rfl,rfl,rfl,rfl,rfl,rfl,rfl,rfl,rfl,rfl,rfl⟩
def bO17 {A1 A2 A3 A4 A5 A6 A7 A8 A9 A10 A11 A12 A13 A14 A15 A16 A17:Type}(x:Option (A1×A2×A3×A4×A5×A6×A7×A8×A9×A10×A11×A12×A13×A14×A15×A16×A17)) (k:A1→A2→A3→A4→A5→A6→A7→A8→A9→A10→A11→A12→A13→A14→A15→A16→A17→Option γ):Option γ:=match x with | some p=>k p.1 p.2.1 p.2.2.1 p.2.2.2.1 p.2.2.2.2.1 p.2.2.2.2.2.1 p.2.2.2.2.2.2.1 p.2.2.2.2.2.2.2.1 p.2.2.2.2.2.2.2.2.1 p.2.2.2.2.2.2.2.2.2.1 p.2.2.2.2.2.2.2.2.2.2.1 p.2.2.2.2.2.2.2.2.2.2.2.1 p.2.2.2.2.2.2.2.2.2.2.2.2.1 p.2.2.2.2.2.2.2.2.2.2.2.2.2.1 p.2.2.2.2.2.2.2.2.2.2.2.2.2.2.1 p.2.2.2.2.2.2.2.2.2.2.2.2.2.2.2.1 p.2.2.2.2.2.2.2.2.2.2.2.2.2.2.2.2 | none=>none
theorem TR {A1 A2 A3 A4 A5 A6 A7 A8 A9 A10 A11 A12 A13 A14 A15 A16 A17:Type}{x:Option (A1×A2×A3×A4×A5×A6×A7×A8×A9×A10×A11×A12×A13×A14×A15×A16×A17)}{k:A1→A2→A3→A4→A5→A6→A7→A8→A9→A10→A11→A12→A13→A14→A15→A16→A17→Option γ}{r:γ}(h:bO17 x k=some r):∃a1 a2 a3 a4 a5 a6 a7 a8 a9 a10 a11 a12 a13 a14 a15 a16 a17,x=some (a1,a2,a3,a4,a5,a6,a7,a8,a9,a10,a11,a12,a13,a14,a15,a16,a17)∧k a1 a2 a3 a4 a5 a6 a7 a8 a9 a10 a11 a12 a13 a14 a15 a16 a17=some r:=by
 cases x with
 | none=>cases h
 | some p=>exact⟨_,_,_,_,_,_,_,_,_,_,_,_,_,_,_,_,_,rfl,h⟩
theorem V9 {A1 A2 A3 A4 A5 A6 A7 A8 A9 A10 A11 A12 A13 A14 A15 A16 A17:Type}{a1 b1:A1}{a2 b2:A2}{a3 b3:A3}{a4 b4:A4}{a5 b5:A5}{a6 b6:A6}{a7 b7:A7}{a8 b8:A8}{a9 b9:A9}{a10 b10:A10}{a11 b11:A11}{a12 b12:A12}{a13 b13:A13}{a14 b14:A14}{a15 b15:A15}{a16 b16:A16}{a17 b17:A17}(h:some (a1,a2,a3,a4,a5,a6,a7,a8,a9,a10,a11,a12,a13,a14,a15,a16,a17)=some (b1,b2,b3,b4,b5,b6,b7,b8,b9,b10,b11,b12,b13,b14,b15,b16,b17)):a1=b1∧a2=b2∧a3=b3∧a4=b4∧a5=b5∧a6=b6∧a7=b7∧a8=b8∧a9=b9∧a10=b10∧a11=b11∧a12=b12∧a13=b13∧a14=b14∧a15=b15∧a16=b16∧a17=b17:=by
 cases h
 exact⟨rfl,rfl,rfl,rfl,rfl,rfl,rfl,rfl,rfl,rfl,rfl,rfl,rfl,rfl,rfl,rfl,rfl⟩
end
end Go.AM
namespace Go.AM
open Go
def sI (n:Nat) (z:Int):Nat×AV:=(n,.v (.d (.int .i64 z)))
def sU (n:Nat) (z:Int):Nat×AV:=(n,.v (.d (.int .u8 z)))
def sB (n:Nat) (b:Bool):Nat×AV:=(n,.v (.d (.bool b)))
def sT (n s:Nat) (l:List D):Nat×AV:=(n,.v (.d (.list true s l)))
def sF (n s:Nat) (l:List D):Nat×AV:=(n,.v (.d (.list false s l)))
def sL (n i:Nat):Nat×AV:=(n,.v (.c (.ptr (.loc i) 0)))
def sE (n i:Nat):Nat×AV:=(n,.v (.c (.ptr (.ext i) 0)))
def sS (n:Nat) (b:ByteArray):Nat×AV:=(n,.v (.d (.str b)))
abbrev LD:=List D
abbrev BA:=ByteArray
theorem Aq {γ:Type}{x y r:Option γ}(h:(if true=true then x else y)=r):x=r:=h
theorem Ar {γ:Type}{x y r:Option γ}(h:(if false=true then x else y)=r):y=r:=h
end Go.AM
namespace Go.AM
open Go
def Ev {α:Type}(A:Nat→Option α) (r:α):Prop:=∃N,∀n,N≤n→A n=some r
section
variable {α β γ:Type}
theorem Ev.ret {r:α}:Ev (fun _=>some r) r:=⟨0,fun _ _=>rfl⟩
theorem Ev.of {A:Nat→Option α}{r:α}(h:∀n,A n=some r):Ev A r:=⟨0,fun n _=>h n⟩
theorem Ev.succ {A:Nat→Option α}{r:α}(h:Ev (fun n=>A (n+1)) r):Ev A r:=by
 obtain⟨N,h⟩:=h
 refine⟨N+1,fun n hn=>?_⟩
 obtain⟨m,rfl⟩:∃m,n=m+1:=⟨n - 1,by omega⟩
 exact h m (by omega)
theorem Ev.congr {A B:Nat→Option α}{r:α}(h:Ev A r) (e:∀n,A n=B n):Ev B r:=by
 obtain⟨N,h⟩:=h
 exact⟨N,fun n hn=>(e n)▸h n hn⟩
theorem Ev.bO0 {A:Nat→Option Unit}{k:Nat→Option γ}{r:γ}(ha:Ev A ()) (hk:Ev k r):Ev (fun n=>bO0 (A n) (k n)) r:=by
 obtain⟨N,ha⟩:=ha
 obtain⟨M,hk⟩:=hk
 refine⟨N+M,fun n hn=>?_⟩
 show Go.AM.bO0 (A n) (k n)=some r
 rw[ha n (by omega)]
 exact hk n (by omega)
theorem Ev.bO1 {A:Nat→Option α}{a:α}{k:Nat→α→Option γ}{r:γ}(ha:Ev A a) (hk:Ev (fun n=>k n a) r):Ev (fun n=>bO1 (A n) (k n)) r:=by
 obtain⟨N,ha⟩:=ha
 obtain⟨M,hk⟩:=hk
 refine⟨N+M,fun n hn=>?_⟩
 show Go.AM.bO1 (A n) (k n)=some r
 rw[ha n (by omega)]
 exact hk n (by omega)
theorem Ev.bO2 {A:Nat→Option (α×β)}{a:α}{b:β}{k:Nat→α→β→Option γ}{r:γ}(ha:Ev A (a,b)) (hk:Ev (fun n=>k n a b) r):Ev (fun n=>bO2 (A n) (k n)) r:=by
 obtain⟨N,ha⟩:=ha
 obtain⟨M,hk⟩:=hk
 refine⟨N+M,fun n hn=>?_⟩
 show Go.AM.bO2 (A n) (k n)=some r
 rw[ha n (by omega)]
 exact hk n (by omega)
theorem Ev.run {A:Nat→Option α}{r:α}(h:Ev A r):∃n,A n=some r:=let ⟨N,h⟩:=h;⟨N,h N (Nat.le_refl _)⟩
theorem Ev.uniq {A:Nat→Option α}{r s:α}(h:Ev A r) (h':Ev A s):r=s:=by
 obtain⟨N,h⟩:=h
 obtain⟨M,h'⟩:=h'
 have a:=h (N+M) (by omega)
 rw[h' (N+M) (by omega)]at a
 exact (Option.some.inj a).symm
def WA (A B:Nat→Option α):Prop:=∃r,Ev A r∧Ev B r
def Total (A:Nat→Option α):Prop:=∃r,Ev A r
theorem down {P:Nat→Prop}(N:Nat) (h0:P N) (h:∀i,i<N→P (i+1)→P i):∀i,i≤N→P i:=by
 intro i hi
 obtain⟨d,hd⟩:∃d,d=N - i:=⟨_,rfl⟩
 induction d generalizing i with
 | zero=>
      obtain rfl:i=N:=by omega
      exact h0
 | succ d ih=>exact h i (by omega) (ih (i+1) (by omega) (by omega))
end
section
variable {γ:Type}
theorem A0 {L:List D}{i:Nat}{x:D}{k:D→Option γ}(hx:L[i]?=some x):BT L (i:Int) k=k x:=Ct (by omega) (by simpa using hx)
theorem DL {x:Int}(h: -9223372036854775808≤x∧x≤9223372036854775807):IntKind.i64.wrap x=x:=IntWalk.i64_in x h
theorem BB {i N:Nat}(h:i<N) (hN:N≤maxLen):IntKind.i64.wrap ((i:Int)+1)=((i+1:Nat):Int):=by
 have:maxLen=9223372036854775807:=rfl
 rw[DL (by omega)];omega
end
def ER (ti:Types) (e:TypeId) (x:D):Prop:=Shape ti e x.cells∧∀y,ti e=some y→x.isAgg=Ax y.desc
def Ao (ti:Types) (e:TypeId) (L:List D):Prop:=L.length≤maxLen∧∀x∈L,ER ti e x
theorem Ao.get {ti:Types}{e:TypeId}{L:List D}{i:Nat}(h:Ao ti e L) (hi:i<L.length):∃x,L[i]?=some x∧x∈L∧ER ti e x:=
 ⟨L[i],List.getElem?_eq_getElem hi,List.getElem_mem hi,h.2 _ (List.getElem_mem hi)⟩
def N9 (ti:Types) (rec:TypeId→Option (List TypeId)):Nat→List Field→Option (List TypeId)
 | _,[]=>some []
 | off,f::r=>match Nat.beq f.offset off with
  | false=>none
  | true=>match ti f.type with
   | none=>none
   | some y=>match rec f.type with
    | none=>none
    | some l=>match Nat.beq l.length y.size with
     | false=>none
     | true=>match N9 ti rec (off+y.size) r with
      | none=>none
      | some l'=>some (l++l')
def TS (ti:Types):Nat→TypeId→Option (List TypeId)
 | 0,_=>none
 | n+1,t=>match ti t with
  | none=>none
  | some x=>match x.desc with
   | .struct fs=>match N9 ti (TS ti n) 0 fs.toList with
    | none=>none
    | some l=>match Nat.beq l.length x.size with
     | true=>some l
     | false=>none
   | .array ..=>none
   | _=>some [t]
theorem Shape.one {ti:Types}{t:TypeId}{x:TI}{ds:List D}(h:Shape ti t ds) (hx:ti t=some x) (hd:∀fs,x.desc≠ .struct fs):∃c,ds=[c]:=by
 cases h with
 | struct ds h1 h2=>rw[hx]at h1;obtain rfl:=Option.some.inj h1;exact absurd h2 (hd _)
 | _=>exact⟨_,rfl⟩
theorem NY {ti:Types}{rec:TypeId→Option (List TypeId)}{ds:List D}
  (hrec:∀t ls cs,rec t=some ls→Shape ti t cs→cs.length=ls.length∧∀(j:Nat) c tl,cs[j]?=some c→ls[j]?=some tl→Shape ti tl [c]):
  ∀(fs:List Field) (off:Nat) (ls:List TypeId),N9 ti rec off fs=some ls→(∀f∈fs,∀y,ti f.type=some y→Shape ti f.type ((ds.drop f.offset).take y.size))→
   ∀(j:Nat) c tl,ds[off+j]?=some c→ls[j]?=some tl→Shape ti tl [c]
 | [],off,ls,h,_,j,c,tl,_,hl=>by
  cases h;simp at hl
 | f::fs,off,ls,h,hs,j,c,tl,hc,hl=>by
  unfold N9 at h
  split at h
  ·cases h
  ·rename_i ho
   have ho:=Nat.eq_of_beq_eq_true ho
   split at h
   ·cases h
   ·rename_i y hy
    split at h
    ·cases h
    ·rename_i l hr
     split at h
     ·cases h
     ·rename_i hb
      have hb:=Nat.eq_of_beq_eq_true hb
      split at h
      ·cases h
      ·rename_i l' hl'
       cases h
       obtain⟨h1,h2⟩:=hrec _ _ _ hr (hs f (by simp) y hy)
       by_cases hj:j<l.length
       ·rw[List.getElem?_append_left hj]at hl
        refine h2 j c tl ?_ hl
        rw[List.getElem?_take,if_pos (by omega),List.getElem?_drop,ho]
        exact hc
       ·rw[List.getElem?_append_right (by omega)]at hl
        refine NY hrec fs _ l' hl' (fun f' hf'=>hs f' (List.mem_cons_of_mem _ hf')) (j - l.length) c tl ?_ hl
        rw[←hc];congr 1;omega
theorem Shape.flat {ti:Types}:
  ∀(n:Nat) (t:TypeId) (ls:List TypeId) (ds:List D),TS ti n t=some ls→Shape ti t ds→ds.length=ls.length∧∀(j:Nat) c tl,ds[j]?=some c→ls[j]?=some tl→Shape ti tl [c]
 | 0,t,ls,ds,h,_=>by cases h
 | n+1,t,ls,ds,h,hs=>by
  unfold TS at h
  split at h
  ·cases h
  ·rename_i x hx
   have single:(∀fs,x.desc≠ .struct fs)→ls=[t]→ds.length=ls.length∧∀(j:Nat) c tl,ds[j]?=some c→ls[j]?=some tl→Shape ti tl [c]:=by
    rintro hd rfl
    obtain⟨c,rfl⟩:=hs.one hx hd
    refine⟨rfl,fun j c' tl h1 h2=>?_⟩
    match j with
    | 0=>simp at h1 h2;subst h1;subst h2;exact hs
    | j+1=>simp at h1
   split at h
   ·rename_i fs hd
    obtain⟨h1,_,h3⟩:=hs.Qx hx hd
    split at h
    ·cases h
    ·rename_i l hl
     split at h
     ·rename_i hb
      cases h
      refine⟨h1.trans (Nat.eq_of_beq_eq_true hb).symm,fun j c tl h4 h5=>?_⟩
      exact NY (fun t ls cs h6 h7=>Shape.flat n t ls cs h6 h7) fs.toList 0 ls hl h3 j c tl (by simpa using h4) h5
     ·cases h
   ·cases h
   ·rename_i h1 h2
    cases h
    exact single h1 rfl
theorem ER.agg {ti:Types}{e:TypeId}{x:D}{y:TI}(h:ER ti e x) (hy:ti e=some y) (hr:Ax y.desc=true):∃cs,x= .agg cs∧Shape ti e cs:=by
 have h1:=(h.2 y hy).trans hr
 cases x<;>simp[D.isAgg]at h1
 exact⟨_,rfl,h.1⟩
theorem ER.Up {ti:Types}{e:TypeId}{x:D}{y:TI}(h:ER ti e x) (hy:ti e=some y) (hr:Ax y.desc=false):Shape ti e [x]:=by
 have h1:=(h.2 y hy).trans hr
 have h0:=h.1
 cases x<;>simp_all [D.isAgg,D.cells]
theorem Shape.DW {ti:Types}{t e:TypeId}{x y:TI}{c:D}(h:Shape ti t [c]) (hx:ti t=some x) (hd:x.desc= .slice e) (hy:ti e=some y):
  ∃L,c= .list (Ax y.desc) y.size L∧Ao ti e L:=by
 obtain⟨L,e1,h1,h2,h3⟩:=h.Sf hx hd hy
 refine⟨L,(List.cons.inj e1).1,h1,fun r hr=>⟨h3 r hr,fun y' hy'=>?_⟩⟩
 rw[hy]at hy'
 obtain rfl:=Option.some.inj hy'
 exact (h2 r hr).1
theorem Shape.IJ {ti:Types}{t:TypeId}{x:TI}{k:IntKind}{c:D}(h:Shape ti t [c]) (hx:ti t=some x) (hd:x.desc= .int k):∃n,c= .int k n∧(Lit.int k n).wf=true:=by
 obtain⟨n,e,hw⟩:=h.Vt hx hd
 exact⟨n,(List.cons.inj e).1,hw⟩
theorem Shape.GA {ti:Types}{t:TypeId}{x:TI}{c:D}(h:Shape ti t [c]) (hx:ti t=some x) (hd:x.desc= .string):∃s,c= .str s∧s.size≤maxLen:=by
 obtain⟨n,e,hw⟩:=h.Vu hx hd
 exact⟨n,(List.cons.inj e).1,hw⟩
theorem Shape.Y3 {ti:Types}{t:TypeId}{x:TI}{c:D}(h:Shape ti t [c]) (hx:ti t=some x) (hd:x.desc= .bool):∃b,c= .bool b:=by
 obtain⟨n,e⟩:=h.Uo hx hd
 exact⟨n,(List.cons.inj e).1⟩
theorem Pe {n:Int}(h:(Lit.int .u8 n).wf=true):0≤n∧n<256:=by
 simp[Lit.wf,show IntKind.u8.min=0 from rfl,show IntKind.u8.max=255 from rfl,show IntKind.i64.min= -9223372036854775808 from rfl,show IntKind.i64.max=9223372036854775807 from rfl]at h
 omega
theorem CI {ag:Bool}{sz:Nat}{L M:List D}{cs:List D}(h:D.agg cs∈L) (h2:D.list ag sz M∈cs):SizeOf.sizeOf M<SizeOf.sizeOf L:=by
 have h1:=List.sizeOf_lt_of_mem h
 have h3:=List.sizeOf_lt_of_mem h2
 simp at h1 h3
 omega
theorem EH {P:List D→Prop}(H:∀L,(∀M,SizeOf.sizeOf M<SizeOf.sizeOf L→P M)→P L) (L:List D):P L:=by
 obtain⟨m,hm⟩:∃m,SizeOf.sizeOf L<m:=⟨_,Nat.lt_succ_self _⟩
 induction m generalizing L with
 | zero=>omega
 | succ m ih=>exact H L (fun M hM=>ih M (by omega))
end Go.AM
namespace Go.AM
open Go
theorem Shape.row {ti:Types}{t:TypeId}{cs:List D}{y:TI}(h:Shape ti t cs) (hy:ti t=some y) (h1:Ax y.desc=true):cs.length=y.size∧∀c∈cs,c.isAgg=false:=by
 cases h with
 | struct ds h hd hl hg hr=>rw[hy]at h;cases h;exact⟨hl,hg⟩
 | bool b h hd=>rw[hy]at h;cases h;rw[hd]at h1;cases h1
 | int n h hd=>rw[hy]at h;cases h;rw[hd]at h1;cases h1
 | str s h hd=>rw[hy]at h;cases h;rw[hd]at h1;cases h1
 | slice rows h hd=>rw[hy]at h;cases h;rw[hd]at h1;cases h1
theorem Shape.cell {ti:Types}{t:TypeId}{cs:List D}{y:TI}(h:Shape ti t cs) (hy:ti t=some y) (h1:Ax y.desc=false):∃c,cs=[c]∧c.isAgg=false:=by
 cases h with
 | struct ds h hd hl hg hr=>rw[hy]at h;cases h;rw[hd]at h1;cases h1
 | bool b h hd=>exact⟨_,rfl,rfl⟩
 | int n h hd=>exact⟨_,rfl,rfl⟩
 | str s h hd=>exact⟨_,rfl,rfl⟩
 | slice rows h hd=>exact⟨_,rfl,rfl⟩
theorem ER.fits {ti:Types}{e:TypeId}{r:D}{y:TI}(h1:Bo ti) (h:ER ti e r) (hy:ti e=some y):r.fits (Ax y.desc) y.size:=by
 have ha:=h.2 y hy
 cases hr:Ax y.desc with
 | true=>
  obtain⟨q1,q2⟩:=h.1.row hy hr
  exact⟨by rw[ha,hr],q1,q2⟩
 | false=>
  obtain⟨c,q1,q2⟩:=h.1.cell hy hr
  exact⟨by rw[ha,hr],by rw[q1,h1 e y hy hr];rfl,by rw[q1];simpa using q2⟩
theorem Ao.shape {ti:Types}{t e:TypeId}{x y:TI}{L:List D}(h1:Bo ti) (h:Ao ti e L) (hx:ti t=some x) (hd:x.desc= .slice e) (hy:ti e=some y):Shape ti t [.list (Ax y.desc) y.size L]:=
 .slice L hx hd hy h.1 (fun r hr=>(h.2 r hr).fits h1 hy) (fun r hr=>(h.2 r hr).1)
theorem Ao.nil {ti:Types}{e:TypeId}:Ao ti e []:=⟨Nat.zero_le _,by simp⟩
theorem Ao.cons {ti:Types}{e:TypeId}{x:D}{L:List D}(hx:ER ti e x) (h:Ao ti e L) (hl:L.length+1≤maxLen):Ao ti e (x::L):=⟨by simpa using hl,fun y hy=>by
 rcases List.mem_cons.1 hy with rfl | hy
 ·exact hx
 ·exact h.2 y hy⟩
theorem Ao.one {ti:Types}{e:TypeId}{x:D}(hx:ER ti e x):Ao ti e [x]:=.cons hx .nil (by simp[maxLen])
theorem Ao.set {ti:Types}{e:TypeId}{L:List D}(h:Ao ti e L) (i:Nat) {x:D}(hx:ER ti e x):Ao ti e (L.set i x):=⟨by simpa using h.1,fun y hy=>by
 rcases List.mem_or_eq_of_mem_set hy with hy | rfl
 ·exact h.2 y hy
 ·exact hx⟩
theorem Ao.take {ti:Types}{e:TypeId}{L:List D}(h:Ao ti e L) (i:Nat):Ao ti e (L.take i):=⟨by have:=h.1;simp;omega,fun x hx=>h.2 x (List.mem_of_mem_take hx)⟩
theorem Ao.drop {ti:Types}{e:TypeId}{L:List D}(h:Ao ti e L) (i:Nat):Ao ti e (L.drop i):=⟨by have:=h.1;simp;omega,fun x hx=>h.2 x (List.mem_of_mem_drop hx)⟩
theorem Ev.bO3 {A1 A2 A3 γ:Type}{A:Nat→Option (A1×A2×A3)}{a1:A1}{a2:A2}{a3:A3}{k:Nat→A1→A2→A3→Option γ}{r:γ}(ha:Ev A (a1,a2,a3)) (hk:Ev (fun n=>k n a1 a2 a3) r):Ev (fun n=>bO3 (A n) (k n)) r:=by
 obtain⟨N,ha⟩:=ha
 obtain⟨M,hk⟩:=hk
 refine⟨N+M,fun n hn=>?_⟩
 show Go.AM.bO3 (A n) (k n)=some r
 rw[ha n (by omega)]
 exact hk n (by omega)
theorem Ev.bO4 {A1 A2 A3 A4 γ:Type}{A:Nat→Option (A1×A2×A3×A4)}{a1:A1}{a2:A2}{a3:A3}{a4:A4}{k:Nat→A1→A2→A3→A4→Option γ}{r:γ}(ha:Ev A (a1,a2,a3,a4)) (hk:Ev (fun n=>k n a1 a2 a3 a4) r):Ev (fun n=>bO4 (A n) (k n)) r:=by
 obtain⟨N,ha⟩:=ha
 obtain⟨M,hk⟩:=hk
 refine⟨N+M,fun n hn=>?_⟩
 show Go.AM.bO4 (A n) (k n)=some r
 rw[ha n (by omega)]
 exact hk n (by omega)
theorem Ev.bO5 {A1 A2 A3 A4 A5 γ:Type}{A:Nat→Option (A1×A2×A3×A4×A5)}{a1:A1}{a2:A2}{a3:A3}{a4:A4}{a5:A5}{k:Nat→A1→A2→A3→A4→A5→Option γ}{r:γ}(ha:Ev A (a1,a2,a3,a4,a5)) (hk:Ev (fun n=>k n a1 a2 a3 a4 a5) r):Ev (fun n=>bO5 (A n) (k n)) r:=by
 obtain⟨N,ha⟩:=ha
 obtain⟨M,hk⟩:=hk
 refine⟨N+M,fun n hn=>?_⟩
 show Go.AM.bO5 (A n) (k n)=some r
 rw[ha n (by omega)]
 exact hk n (by omega)
theorem Ev.bO7 {A1 A2 A3 A4 A5 A6 A7 γ:Type}{A:Nat→Option (A1×A2×A3×A4×A5×A6×A7)}{a1:A1}{a2:A2}{a3:A3}{a4:A4}{a5:A5}{a6:A6}{a7:A7}{k:Nat→A1→A2→A3→A4→A5→A6→A7→Option γ}{r:γ}(ha:Ev A (a1,a2,a3,a4,a5,a6,a7)) (hk:Ev (fun n=>k n a1 a2 a3 a4 a5 a6 a7) r):Ev (fun n=>bO7 (A n) (k n)) r:=by
 obtain⟨N,ha⟩:=ha
 obtain⟨M,hk⟩:=hk
 refine⟨N+M,fun n hn=>?_⟩
 show Go.AM.bO7 (A n) (k n)=some r
 rw[ha n (by omega)]
 exact hk n (by omega)
theorem Ev.bO8 {A1 A2 A3 A4 A5 A6 A7 A8 γ:Type}{A:Nat→Option (A1×A2×A3×A4×A5×A6×A7×A8)}{a1:A1}{a2:A2}{a3:A3}{a4:A4}{a5:A5}{a6:A6}{a7:A7}{a8:A8}{k:Nat→A1→A2→A3→A4→A5→A6→A7→A8→Option γ}{r:γ}(ha:Ev A (a1,a2,a3,a4,a5,a6,a7,a8)) (hk:Ev (fun n=>k n a1 a2 a3 a4 a5 a6 a7 a8) r):Ev (fun n=>bO8 (A n) (k n)) r:=by
 obtain⟨N,ha⟩:=ha
 obtain⟨M,hk⟩:=hk
 refine⟨N+M,fun n hn=>?_⟩
 show Go.AM.bO8 (A n) (k n)=some r
 rw[ha n (by omega)]
 exact hk n (by omega)
theorem Ev.bO15 {A1 A2 A3 A4 A5 A6 A7 A8 A9 A10 A11 A12 A13 A14 A15 γ:Type}{A:Nat→Option (A1×A2×A3×A4×A5×A6×A7×A8×A9×A10×A11×A12×A13×A14×A15)}{a1:A1}{a2:A2}{a3:A3}{a4:A4}{a5:A5}{a6:A6}{a7:A7}{a8:A8}{a9:A9}{a10:A10}{a11:A11}{a12:A12}{a13:A13}{a14:A14}{a15:A15}{k:Nat→A1→A2→A3→A4→A5→A6→A7→A8→A9→A10→A11→A12→A13→A14→A15→Option γ}{r:γ}(ha:Ev A (a1,a2,a3,a4,a5,a6,a7,a8,a9,a10,a11,a12,a13,a14,a15)) (hk:Ev (fun n=>k n a1 a2 a3 a4 a5 a6 a7 a8 a9 a10 a11 a12 a13 a14 a15) r):Ev (fun n=>bO15 (A n) (k n)) r:=by
 obtain⟨N,ha⟩:=ha
 obtain⟨M,hk⟩:=hk
 refine⟨N+M,fun n hn=>?_⟩
 show Go.AM.bO15 (A n) (k n)=some r
 rw[ha n (by omega)]
 exact hk n (by omega)
theorem Ev.bO17 {A1 A2 A3 A4 A5 A6 A7 A8 A9 A10 A11 A12 A13 A14 A15 A16 A17 γ:Type}{A:Nat→Option (A1×A2×A3×A4×A5×A6×A7×A8×A9×A10×A11×A12×A13×A14×A15×A16×A17)}{a1:A1}{a2:A2}{a3:A3}{a4:A4}{a5:A5}{a6:A6}{a7:A7}{a8:A8}{a9:A9}{a10:A10}{a11:A11}{a12:A12}{a13:A13}{a14:A14}{a15:A15}{a16:A16}{a17:A17}{k:Nat→A1→A2→A3→A4→A5→A6→A7→A8→A9→A10→A11→A12→A13→A14→A15→A16→A17→Option γ}{r:γ}(ha:Ev A (a1,a2,a3,a4,a5,a6,a7,a8,a9,a10,a11,a12,a13,a14,a15,a16,a17)) (hk:Ev (fun n=>k n a1 a2 a3 a4 a5 a6 a7 a8 a9 a10 a11 a12 a13 a14 a15 a16 a17) r):Ev (fun n=>bO17 (A n) (k n)) r:=by
 obtain⟨N,ha⟩:=ha
 obtain⟨M,hk⟩:=hk
 refine⟨N+M,fun n hn=>?_⟩
 show Go.AM.bO17 (A n) (k n)=some r
 rw[ha n (by omega)]
 exact hk n (by omega)
end Go.AM
namespace Go.Proofs.YtmggjbjpklecgaaGreatDoor
open Go Go.AM
def WB:List (Nat×TI):=[(1,⟨.func #[] #[] false,1,8,.nilFunc,[.nilf]⟩),
 (2,⟨.int .i64,1,8,.int .i64 0,[.d (.int .i64 0)]⟩),
 (3,⟨.int .i64,1,8,.int .i64 0,[.d (.int .i64 0)]⟩),
 (4,⟨.bool,1,1,.bool false,[.d (.bool false)]⟩),
 (5,⟨.int .u8,1,1,.int .u8 0,[.d (.int .u8 0)]⟩),
 (6,⟨.int .u8,1,1,.int .u8 0,[.d (.int .u8 0)]⟩),
 (7,⟨.struct #[⟨"x",2,0,false, "", "runtime",0⟩,⟨"y",3,1,false, "", "runtime",8⟩,⟨"signed",4,2,false, "", "runtime",16⟩,⟨"code",6,3,false, "", "runtime",17⟩],4,24,.agg #[.int .i64 0,.int .i64 0,.bool false,.int .u8 0],[.d (.int .i64 0),.d (.int .i64 0),.d (.bool false),.d (.int .u8 0)]⟩),
 (8,⟨.struct #[⟨"x",2,0,false, "", "runtime",0⟩,⟨"y",3,1,false, "", "runtime",8⟩,⟨"signed",4,2,false, "", "runtime",16⟩,⟨"code",6,3,false, "", "runtime",17⟩],4,24,.agg #[.int .i64 0,.int .i64 0,.bool false,.int .u8 0],[.d (.int .i64 0),.d (.int .i64 0),.d (.bool false),.d (.int .u8 0)]⟩),
 (9,⟨.string,1,16,.string ByteArray.empty,[.d (.str ByteArray.empty)]⟩),
 (10,⟨.string,1,16,.string ByteArray.empty,[.d (.str ByteArray.empty)]⟩),
 (11,⟨.string,1,16,.string ByteArray.empty,[.d (.str ByteArray.empty)]⟩),
 (12,⟨.int .u64,1,8,.int .u64 0,[.d (.int .u64 0)]⟩),
 (13,⟨.struct #[⟨"msg",9,0,false, "", "runtime",0⟩,⟨"addr",12,1,false, "", "runtime",16⟩],2,24,.agg #[.string ByteArray.empty,.int .u64 0],[.d (.str ByteArray.empty),.d (.int .u64 0)]⟩),
 (14,⟨.struct #[⟨"msg",9,0,false, "", "runtime",0⟩,⟨"addr",12,1,false, "", "runtime",16⟩],2,24,.agg #[.string ByteArray.empty,.int .u64 0],[.d (.str ByteArray.empty),.d (.int .u64 0)]⟩),
 (15,⟨.pointer 217,1,8,.pointer none,[.nilp]⟩)]
def WC:List (Nat×TI):=[(16,⟨.pointer 220,1,8,.pointer none,[.nilp]⟩),
 (17,⟨.pointer 228,1,8,.pointer none,[.nilp]⟩),
 (18,⟨.struct #[⟨"typ",17,0,false, "", "internal/runtime/maps",0⟩],1,8,.agg #[.pointer none],[.nilp]⟩),
 (19,⟨.struct #[⟨"typ",17,0,false, "", "internal/runtime/maps",0⟩],1,8,.agg #[.pointer none],[.nilp]⟩),
 (21,⟨.int .i32,1,4,.int .i32 0,[.d (.int .i32 0)]⟩),
 (22,⟨.slice 45,1,24,.slice none 0 0,[.nils true 16]⟩),
 (23,⟨.struct #[⟨"Items",22,0,false, "", "",0⟩],1,24,.agg #[.slice none 0 0],[.nils true 16]⟩),
 (24,⟨.struct #[⟨"Items",22,0,false, "", "",0⟩],1,24,.agg #[.slice none 0 0],[.nils true 16]⟩),
 (25,⟨.slice 4,1,24,.slice none 0 0,[.nils false 1]⟩),
 (26,⟨.slice 28,1,24,.slice none 0 0,[.nils true 3]⟩),
 (27,⟨.struct #[⟨"Kind",5,0,false, "", "",0⟩,⟨"Name",9,1,false, "", "",8⟩,⟨"Args",26,2,false, "", "",24⟩],3,48,.agg #[.int .u8 0,.string ByteArray.empty,.slice none 0 0],[.d (.int .u8 0),.d (.str ByteArray.empty),.nils true 3]⟩),
 (28,⟨.struct #[⟨"Kind",5,0,false, "", "",0⟩,⟨"Name",9,1,false, "", "",8⟩,⟨"Args",26,2,false, "", "",24⟩],3,48,.agg #[.int .u8 0,.string ByteArray.empty,.slice none 0 0],[.d (.int .u8 0),.d (.str ByteArray.empty),.nils true 3]⟩),
 (29,⟨.func #[] #[4] false,1,8,.nilFunc,[.nilf]⟩),
 (30,⟨.func #[24] #[4] false,1,8,.nilFunc,[.nilf]⟩),
 (31,⟨.func #[28] #[4] false,1,8,.nilFunc,[.nilf]⟩)]
def WD:List (Nat×TI):=[(32,⟨.func #[28,3] #[4] false,1,8,.nilFunc,[.nilf]⟩),
 (33,⟨.pointer 35,1,8,.pointer none,[.nilp]⟩),
 (34,⟨.struct #[⟨"p",24,0,false, "", "weftway/weftwaytop",0⟩,⟨"send",25,1,false, "", "weftway/weftwaytop",24⟩,⟨"sync",25,2,false, "", "weftway/weftwaytop",48⟩],3,72,.agg #[.slice none 0 0,.slice none 0 0,.slice none 0 0],[.nils true 16,.nils false 1,.nils false 1]⟩),
 (35,⟨.struct #[⟨"p",24,0,false, "", "weftway/weftwaytop",0⟩,⟨"send",25,1,false, "", "weftway/weftwaytop",24⟩,⟨"sync",25,2,false, "", "weftway/weftwaytop",48⟩],3,72,.agg #[.slice none 0 0,.slice none 0 0,.slice none 0 0],[.nils true 16,.nils false 1,.nils false 1]⟩),
 (36,⟨.slice 67,1,24,.slice none 0 0,[.nils true 4]⟩),
 (37,⟨.slice 82,1,24,.slice none 0 0,[.nils true 15]⟩),
 (38,⟨.slice 9,1,24,.slice none 0 0,[.nils false 1]⟩),
 (39,⟨.struct #[⟨"Name",9,0,false, "", "",0⟩,⟨"Path",38,1,false, "", "",16⟩],2,40,.agg #[.string ByteArray.empty,.slice none 0 0],[.d (.str ByteArray.empty),.nils false 1]⟩),
 (40,⟨.struct #[⟨"Name",9,0,false, "", "",0⟩,⟨"Path",38,1,false, "", "",16⟩],2,40,.agg #[.string ByteArray.empty,.slice none 0 0],[.d (.str ByteArray.empty),.nils false 1]⟩),
 (41,⟨.slice 43,1,24,.slice none 0 0,[.nils true 8]⟩),
 (42,⟨.struct #[⟨"Op",5,0,false, "", "",0⟩,⟨"Int",2,1,false, "", "",8⟩,⟨"Name",9,2,false, "", "",16⟩,⟨"Second",9,3,false, "", "",32⟩,⟨"Place",40,4,false, "", "",48⟩,⟨"Args",41,6,false, "", "",88⟩,⟨"At",3,7,false, "", "",112⟩],8,120,.agg #[.int .u8 0,.int .i64 0,.string ByteArray.empty,.string ByteArray.empty,.string ByteArray.empty,.slice none 0 0,.slice none 0 0,.int .i64 0],[.d (.int .u8 0),.d (.int .i64 0),.d (.str ByteArray.empty),.d (.str ByteArray.empty),.d (.str ByteArray.empty),.nils false 1,.nils true 8,.d (.int .i64 0)]⟩),
 (43,⟨.struct #[⟨"Op",5,0,false, "", "",0⟩,⟨"Int",2,1,false, "", "",8⟩,⟨"Name",9,2,false, "", "",16⟩,⟨"Second",9,3,false, "", "",32⟩,⟨"Place",40,4,false, "", "",48⟩,⟨"Args",41,6,false, "", "",88⟩,⟨"At",3,7,false, "", "",112⟩],8,120,.agg #[.int .u8 0,.int .i64 0,.string ByteArray.empty,.string ByteArray.empty,.string ByteArray.empty,.slice none 0 0,.slice none 0 0,.int .i64 0],[.d (.int .u8 0),.d (.int .i64 0),.d (.str ByteArray.empty),.d (.str ByteArray.empty),.d (.str ByteArray.empty),.nils false 1,.nils true 8,.d (.int .i64 0)]⟩),
 (44,⟨.struct #[⟨"Kind",5,0,false, "", "",0⟩,⟨"Name",9,1,false, "", "",8⟩,⟨"Fields",36,2,false, "", "",24⟩,⟨"Result",28,3,false, "", "",48⟩,⟨"Body",37,6,false, "", "",96⟩,⟨"Return",43,7,false, "", "",120⟩,⟨"At",3,15,false, "", "",240⟩],16,248,.agg #[.int .u8 0,.string ByteArray.empty,.slice none 0 0,.int .u8 0,.string ByteArray.empty,.slice none 0 0,.slice none 0 0,.int .u8 0,.int .i64 0,.string ByteArray.empty,.string ByteArray.empty,.string ByteArray.empty,.slice none 0 0,.slice none 0 0,.int .i64 0,.int .i64 0],[.d (.int .u8 0),.d (.str ByteArray.empty),.nils true 4,.d (.int .u8 0),.d (.str ByteArray.empty),.nils true 3,.nils true 15,.d (.int .u8 0),.d (.int .i64 0),.d (.str ByteArray.empty),.d (.str ByteArray.empty),.d (.str ByteArray.empty),.nils false 1,.nils true 8,.d (.int .i64 0),.d (.int .i64 0)]⟩),
 (45,⟨.struct #[⟨"Kind",5,0,false, "", "",0⟩,⟨"Name",9,1,false, "", "",8⟩,⟨"Fields",36,2,false, "", "",24⟩,⟨"Result",28,3,false, "", "",48⟩,⟨"Body",37,6,false, "", "",96⟩,⟨"Return",43,7,false, "", "",120⟩,⟨"At",3,15,false, "", "",240⟩],16,248,.agg #[.int .u8 0,.string ByteArray.empty,.slice none 0 0,.int .u8 0,.string ByteArray.empty,.slice none 0 0,.slice none 0 0,.int .u8 0,.int .i64 0,.string ByteArray.empty,.string ByteArray.empty,.string ByteArray.empty,.slice none 0 0,.slice none 0 0,.int .i64 0,.int .i64 0],[.d (.int .u8 0),.d (.str ByteArray.empty),.nils true 4,.d (.int .u8 0),.d (.str ByteArray.empty),.nils true 3,.nils true 15,.d (.int .u8 0),.d (.int .i64 0),.d (.str ByteArray.empty),.d (.str ByteArray.empty),.d (.str ByteArray.empty),.nils false 1,.nils true 8,.d (.int .i64 0),.d (.int .i64 0)]⟩),
 (46,⟨.func #[24,28] #[4] false,1,8,.nilFunc,[.nilf]⟩),
 (47,⟨.func #[28,4] #[4] false,1,8,.nilFunc,[.nilf]⟩)]
def WE:List (Nat×TI):=[(48,⟨.func #[24,25,25,28] #[4] false,1,8,.nilFunc,[.nilf]⟩),
 (49,⟨.slice 100,1,24,.slice none 0 0,[.nils true 2]⟩),
 (51,⟨.func #[9] #[24,49] false,1,8,.nilFunc,[.nilf]⟩),
 (52,⟨.pointer 54,1,8,.pointer none,[.nilp]⟩),
 (53,⟨.struct #[⟨"Left",3,0,false, "", "",0⟩],1,8,.agg #[.int .i64 0],[.d (.int .i64 0)]⟩),
 (54,⟨.struct #[⟨"Left",3,0,false, "", "",0⟩],1,8,.agg #[.int .i64 0],[.d (.int .i64 0)]⟩),
 (55,⟨.func #[9] #[] false,1,8,.nilFunc,[.nilf]⟩),
 (56,⟨.func #[36] #[] false,1,8,.nilFunc,[.nilf]⟩),
 (57,⟨.func #[28] #[] false,1,8,.nilFunc,[.nilf]⟩),
 (58,⟨.func #[37] #[] false,1,8,.nilFunc,[.nilf]⟩),
 (59,⟨.func #[43] #[] false,1,8,.nilFunc,[.nilf]⟩),
 (60,⟨.func #[45,3] #[4] false,1,8,.nilFunc,[.nilf]⟩),
 (61,⟨.func #[9] #[4] false,1,8,.nilFunc,[.nilf]⟩),
 (62,⟨.func #[24,64] #[4] false,1,8,.nilFunc,[.nilf]⟩),
 (63,⟨.struct #[⟨"t",28,0,false, "", "weftway/autos",0⟩,⟨"sync",4,3,false, "", "weftway/autos",48⟩],4,56,.agg #[.int .u8 0,.string ByteArray.empty,.slice none 0 0,.bool false],[.d (.int .u8 0),.d (.str ByteArray.empty),.nils true 3,.d (.bool false)]⟩)]
def WG:List (Nat×TI):=[(64,⟨.struct #[⟨"t",28,0,false, "", "weftway/autos",0⟩,⟨"sync",4,3,false, "", "weftway/autos",48⟩],4,56,.agg #[.int .u8 0,.string ByteArray.empty,.slice none 0 0,.bool false],[.d (.int .u8 0),.d (.str ByteArray.empty),.nils true 3,.d (.bool false)]⟩),
 (65,⟨.func #[9] #[3] false,1,8,.nilFunc,[.nilf]⟩),
 (66,⟨.struct #[⟨"Name",9,0,false, "", "",0⟩,⟨"Type",28,1,false, "", "",16⟩],4,64,.agg #[.string ByteArray.empty,.int .u8 0,.string ByteArray.empty,.slice none 0 0],[.d (.str ByteArray.empty),.d (.int .u8 0),.d (.str ByteArray.empty),.nils true 3]⟩),
 (67,⟨.struct #[⟨"Name",9,0,false, "", "",0⟩,⟨"Type",28,1,false, "", "",16⟩],4,64,.agg #[.string ByteArray.empty,.int .u8 0,.string ByteArray.empty,.slice none 0 0],[.d (.str ByteArray.empty),.d (.int .u8 0),.d (.str ByteArray.empty),.nils true 3]⟩),
 (68,⟨.slice 78,1,24,.slice none 0 0,[.nils true 3]⟩),
 (69,⟨.int .i64,1,8,.int .i64 0,[.d (.int .i64 0)]⟩),
 (71,⟨.func #[9] #[68,3,69] false,1,8,.nilFunc,[.nilf]⟩),
 (72,⟨.func #[69,3] #[49] false,1,8,.nilFunc,[.nilf]⟩),
 (73,⟨.pointer 75,1,8,.pointer none,[.nilp]⟩),
 (74,⟨.struct #[⟨"l",68,0,false, "", "weftway/parse",0⟩,⟨"at",3,1,false, "", "weftway/parse",24⟩,⟨"bad",4,2,false, "", "weftway/parse",32⟩,⟨"full",4,3,false, "", "weftway/parse",33⟩],4,40,.agg #[.slice none 0 0,.int .i64 0,.bool false,.bool false],[.nils true 3,.d (.int .i64 0),.d (.bool false),.d (.bool false)]⟩),
 (75,⟨.struct #[⟨"l",68,0,false, "", "weftway/parse",0⟩,⟨"at",3,1,false, "", "weftway/parse",24⟩,⟨"bad",4,2,false, "", "weftway/parse",32⟩,⟨"full",4,3,false, "", "weftway/parse",33⟩],4,40,.agg #[.slice none 0 0,.int .i64 0,.bool false,.bool false],[.nils true 3,.d (.int .i64 0),.d (.bool false),.d (.bool false)]⟩),
 (76,⟨.func #[] #[45] false,1,8,.nilFunc,[.nilf]⟩),
 (77,⟨.struct #[⟨"Kind",5,0,false, "", "",0⟩,⟨"Text",9,1,false, "", "",8⟩,⟨"At",3,2,false, "", "",24⟩],3,32,.agg #[.int .u8 0,.string ByteArray.empty,.int .i64 0],[.d (.int .u8 0),.d (.str ByteArray.empty),.d (.int .i64 0)]⟩),
 (78,⟨.struct #[⟨"Kind",5,0,false, "", "",0⟩,⟨"Text",9,1,false, "", "",8⟩,⟨"At",3,2,false, "", "",24⟩],3,32,.agg #[.int .u8 0,.string ByteArray.empty,.int .i64 0],[.d (.int .u8 0),.d (.str ByteArray.empty),.d (.int .i64 0)]⟩),
 (79,⟨.func #[24] #[3] false,1,8,.nilFunc,[.nilf]⟩)]
def WH:List (Nat×TI):=[(80,⟨.slice 86,1,24,.slice none 0 0,[.nils true 3]⟩),
 (81,⟨.struct #[⟨"Op",5,0,false, "", "",0⟩,⟨"Name",9,1,false, "", "",8⟩,⟨"Second",9,2,false, "", "",24⟩,⟨"Names",38,3,false, "", "",40⟩,⟨"Type",28,4,false, "", "",64⟩,⟨"Int",2,7,false, "", "",112⟩,⟨"Place",40,8,false, "", "",120⟩,⟨"Exprs",41,10,false, "", "",160⟩,⟨"Body",37,11,false, "", "",184⟩,⟨"Else",37,12,false, "", "",208⟩,⟨"Arms",80,13,false, "", "",232⟩,⟨"At",3,14,false, "", "",256⟩],15,264,.agg #[.int .u8 0,.string ByteArray.empty,.string ByteArray.empty,.slice none 0 0,.int .u8 0,.string ByteArray.empty,.slice none 0 0,.int .i64 0,.string ByteArray.empty,.slice none 0 0,.slice none 0 0,.slice none 0 0,.slice none 0 0,.slice none 0 0,.int .i64 0],[.d (.int .u8 0),.d (.str ByteArray.empty),.d (.str ByteArray.empty),.nils false 1,.d (.int .u8 0),.d (.str ByteArray.empty),.nils true 3,.d (.int .i64 0),.d (.str ByteArray.empty),.nils false 1,.nils true 8,.nils true 15,.nils true 15,.nils true 3,.d (.int .i64 0)]⟩),
 (82,⟨.struct #[⟨"Op",5,0,false, "", "",0⟩,⟨"Name",9,1,false, "", "",8⟩,⟨"Second",9,2,false, "", "",24⟩,⟨"Names",38,3,false, "", "",40⟩,⟨"Type",28,4,false, "", "",64⟩,⟨"Int",2,7,false, "", "",112⟩,⟨"Place",40,8,false, "", "",120⟩,⟨"Exprs",41,10,false, "", "",160⟩,⟨"Body",37,11,false, "", "",184⟩,⟨"Else",37,12,false, "", "",208⟩,⟨"Arms",80,13,false, "", "",232⟩,⟨"At",3,14,false, "", "",256⟩],15,264,.agg #[.int .u8 0,.string ByteArray.empty,.string ByteArray.empty,.slice none 0 0,.int .u8 0,.string ByteArray.empty,.slice none 0 0,.int .i64 0,.string ByteArray.empty,.slice none 0 0,.slice none 0 0,.slice none 0 0,.slice none 0 0,.slice none 0 0,.int .i64 0],[.d (.int .u8 0),.d (.str ByteArray.empty),.d (.str ByteArray.empty),.nils false 1,.d (.int .u8 0),.d (.str ByteArray.empty),.nils true 3,.d (.int .i64 0),.d (.str ByteArray.empty),.nils false 1,.nils true 8,.nils true 15,.nils true 15,.nils true 3,.d (.int .i64 0)]⟩),
 (83,⟨.func #[38] #[] false,1,8,.nilFunc,[.nilf]⟩),
 (84,⟨.func #[40] #[] false,1,8,.nilFunc,[.nilf]⟩),
 (85,⟨.struct #[⟨"Variant",9,0,false, "", "",0⟩,⟨"Name",9,1,false, "", "",16⟩,⟨"Body",37,2,false, "", "",32⟩],3,56,.agg #[.string ByteArray.empty,.string ByteArray.empty,.slice none 0 0],[.d (.str ByteArray.empty),.d (.str ByteArray.empty),.nils true 15]⟩),
 (86,⟨.struct #[⟨"Variant",9,0,false, "", "",0⟩,⟨"Name",9,1,false, "", "",16⟩,⟨"Body",37,2,false, "", "",32⟩],3,56,.agg #[.string ByteArray.empty,.string ByteArray.empty,.slice none 0 0],[.d (.str ByteArray.empty),.d (.str ByteArray.empty),.nils true 15]⟩),
 (87,⟨.func #[43] #[4] false,1,8,.nilFunc,[.nilf]⟩),
 (88,⟨.func #[43,3] #[4] false,1,8,.nilFunc,[.nilf]⟩),
 (89,⟨.func #[37,3] #[4] false,1,8,.nilFunc,[.nilf]⟩),
 (90,⟨.func #[9,5,5] #[4] false,1,8,.nilFunc,[.nilf]⟩),
 (91,⟨.map 94 3,1,8,.map none,[.nilm]⟩),
 (92,⟨.func #[64] #[4] false,1,8,.nilFunc,[.nilf]⟩),
 (93,⟨.struct #[⟨"name",9,0,false, "", "weftway/autos",0⟩,⟨"sync",4,1,false, "", "weftway/autos",16⟩],2,24,.agg #[.string ByteArray.empty,.bool false],[.d (.str ByteArray.empty),.d (.bool false)]⟩),
 (94,⟨.struct #[⟨"name",9,0,false, "", "weftway/autos",0⟩,⟨"sync",4,1,false, "", "weftway/autos",16⟩],2,24,.agg #[.string ByteArray.empty,.bool false],[.d (.str ByteArray.empty),.d (.bool false)]⟩),
 (95,⟨.func #[92] #[] false,1,8,.nilFunc,[.nilf]⟩)]
def WI:List (Nat×TI):=[(96,⟨.func #[92] #[] false,1,8,.nilFunc,[.nilf]⟩),
 (97,⟨.func #[24] #[96] false,1,8,.nilFunc,[.nilf]⟩),
 (98,⟨.func #[9] #[78] false,1,8,.nilFunc,[.nilf]⟩),
 (99,⟨.struct #[⟨"Err",69,0,false, "", "",0⟩,⟨"At",3,1,false, "", "",8⟩],2,16,.agg #[.int .i64 0,.int .i64 0],[.d (.int .i64 0),.d (.int .i64 0)]⟩),
 (100,⟨.struct #[⟨"Err",69,0,false, "", "",0⟩,⟨"At",3,1,false, "", "",8⟩],2,16,.agg #[.int .i64 0,.int .i64 0],[.d (.int .i64 0),.d (.int .i64 0)]⟩),
 (101,⟨.func #[] #[3] false,1,8,.nilFunc,[.nilf]⟩),
 (102,⟨.func #[] #[9] false,1,8,.nilFunc,[.nilf]⟩),
 (103,⟨.func #[38] #[] true,1,8,.nilFunc,[.nilf]⟩),
 (104,⟨.func #[73,9,105] #[36] false,1,8,.nilFunc,[.nilf]⟩),
 (105,⟨.func #[] #[67] false,1,8,.nilFunc,[.nilf]⟩),
 (106,⟨.func #[] #[28] false,1,8,.nilFunc,[.nilf]⟩),
 (108,⟨.func #[] #[37,43] false,1,8,.nilFunc,[.nilf]⟩),
 (109,⟨.func #[45] #[3] false,1,8,.nilFunc,[.nilf]⟩),
 (110,⟨.func #[5] #[9] false,1,8,.nilFunc,[.nilf]⟩),
 (111,⟨.func #[9,3] #[4] false,1,8,.nilFunc,[.nilf]⟩)]
def WJ:List (Nat×TI):=[(112,⟨.func #[9,5] #[4] false,1,8,.nilFunc,[.nilf]⟩),
 (113,⟨.func #[40] #[4] false,1,8,.nilFunc,[.nilf]⟩),
 (114,⟨.func #[82,3] #[4] false,1,8,.nilFunc,[.nilf]⟩),
 (115,⟨.func #[5] #[4] false,1,8,.nilFunc,[.nilf]⟩),
 (117,⟨.func #[24,9] #[36,4] false,1,8,.nilFunc,[.nilf]⟩),
 (118,⟨.array 2 4,2,2,.agg #[.bool false,.bool false],[.d (.bool false),.d (.bool false)]⟩),
 (119,⟨.func #[9,5] #[3] false,1,8,.nilFunc,[.nilf]⟩),
 (120,⟨.func #[9,9] #[4] false,1,8,.nilFunc,[.nilf]⟩),
 (121,⟨.func #[9,115] #[3] false,1,8,.nilFunc,[.nilf]⟩),
 (123,⟨.func #[9] #[2,69] false,1,8,.nilFunc,[.nilf]⟩),
 (124,⟨.func #[3,3] #[] false,1,8,.nilFunc,[.nilf]⟩),
 (126,⟨.map 9 5,1,8,.map none,[.nilm]⟩),
 (127,⟨.func #[] #[126] false,1,8,.nilFunc,[.nilf]⟩)]
def WK:List (Nat×TI):=[(129,⟨.func #[] #[82,4] false,1,8,.nilFunc,[.nilf]⟩),
 (130,⟨.func #[] #[43] false,1,8,.nilFunc,[.nilf]⟩),
 (131,⟨.func #[28] #[3] false,1,8,.nilFunc,[.nilf]⟩),
 (132,⟨.func #[43] #[3] false,1,8,.nilFunc,[.nilf]⟩),
 (133,⟨.func #[82] #[3] false,1,8,.nilFunc,[.nilf]⟩),
 (134,⟨.func #[82,9,3] #[4] false,1,8,.nilFunc,[.nilf]⟩),
 (136,⟨.func #[24,9] #[45,4] false,1,8,.nilFunc,[.nilf]⟩),
 (137,⟨.func #[24] #[24] false,1,8,.nilFunc,[.nilf]⟩),
 (138,⟨.func #[26,3,31] #[4] false,1,8,.nilFunc,[.nilf]⟩),
 (139,⟨.map 9 3,1,8,.map none,[.nilm]⟩),
 (140,⟨.func #[] #[139] false,1,8,.nilFunc,[.nilf]⟩),
 (141,⟨.func #[9,115] #[4] false,1,8,.nilFunc,[.nilf]⟩),
 (142,⟨.func #[9,4] #[4] false,1,8,.nilFunc,[.nilf]⟩),
 (143,⟨.int .u64,1,8,.int .u64 0,[.d (.int .u64 0)]⟩)]
def WL:List (Nat×TI):=[(144,⟨.struct #[⟨"lower",4,0,false, "", "weftway/num",0⟩,⟨"size",143,1,false, "", "weftway/num",8⟩],2,16,.agg #[.bool false,.int .u64 0],[.d (.bool false),.d (.int .u64 0)]⟩),
 (145,⟨.struct #[⟨"lower",4,0,false, "", "weftway/num",0⟩,⟨"size",143,1,false, "", "weftway/num",8⟩],2,16,.agg #[.bool false,.int .u64 0],[.d (.bool false),.d (.int .u64 0)]⟩),
 (147,⟨.func #[145] #[145,4] false,1,8,.nilFunc,[.nilf]⟩),
 (148,⟨.func #[4] #[2,69] false,1,8,.nilFunc,[.nilf]⟩),
 (149,⟨.func #[] #[82] false,1,8,.nilFunc,[.nilf]⟩),
 (151,⟨.map 9 149,1,8,.map none,[.nilm]⟩),
 (152,⟨.func #[] #[151] false,1,8,.nilFunc,[.nilf]⟩),
 (153,⟨.func #[] #[40] false,1,8,.nilFunc,[.nilf]⟩),
 (154,⟨.func #[3] #[43] false,1,8,.nilFunc,[.nilf]⟩),
 (155,⟨.func #[167] #[] false,1,8,.nilFunc,[.nilf]⟩),
 (156,⟨.func #[167] #[] false,1,8,.nilFunc,[.nilf]⟩),
 (157,⟨.func #[82] #[156] false,1,8,.nilFunc,[.nilf]⟩),
 (158,⟨.func #[22,159] #[3] false,1,8,.nilFunc,[.nilf]⟩),
 (159,⟨.func #[45] #[4] false,1,8,.nilFunc,[.nilf]⟩)]
def TT:List (Nat×TI):=[(160,⟨.func #[24,161] #[24] false,1,8,.nilFunc,[.nilf]⟩),
 (161,⟨.func #[3] #[3] false,1,8,.nilFunc,[.nilf]⟩),
 (162,⟨.func #[9] #[38] false,1,8,.nilFunc,[.nilf]⟩),
 (164,⟨.func #[143,143] #[143,143] false,1,8,.nilFunc,[.nilf]⟩),
 (165,⟨.func #[143,143,143] #[143,143] false,1,8,.nilFunc,[.nilf]⟩),
 (166,⟨.func #[3] #[126] false,1,8,.nilFunc,[.nilf]⟩),
 (167,⟨.func #[82] #[4] false,1,8,.nilFunc,[.nilf]⟩),
 (168,⟨.slice 37,1,24,.slice none 0 0,[.nils false 1]⟩),
 (169,⟨.func #[28] #[28] false,1,8,.nilFunc,[.nilf]⟩),
 (170,⟨.func #[43] #[43] false,1,8,.nilFunc,[.nilf]⟩),
 (171,⟨.func #[82] #[82] false,1,8,.nilFunc,[.nilf]⟩),
 (172,⟨.func #[26,169] #[26] false,1,8,.nilFunc,[.nilf]⟩),
 (173,⟨.func #[38] #[38] false,1,8,.nilFunc,[.nilf]⟩),
 (174,⟨.func #[40] #[40] false,1,8,.nilFunc,[.nilf]⟩),
 (175,⟨.func #[41,170] #[41] false,1,8,.nilFunc,[.nilf]⟩)]
def TU:List (Nat×TI):=[(176,⟨.func #[37,171] #[37] false,1,8,.nilFunc,[.nilf]⟩),
 (177,⟨.func #[86] #[86] false,1,8,.nilFunc,[.nilf]⟩),
 (178,⟨.func #[80,177] #[80] false,1,8,.nilFunc,[.nilf]⟩),
 (179,⟨.func #[67] #[67] false,1,8,.nilFunc,[.nilf]⟩),
 (180,⟨.func #[22,182] #[22] false,1,8,.nilFunc,[.nilf]⟩),
 (181,⟨.func #[36,179] #[36] false,1,8,.nilFunc,[.nilf]⟩),
 (182,⟨.func #[45] #[45] false,1,8,.nilFunc,[.nilf]⟩),
 (184,⟨.func #[9,185] #[38] false,1,8,.nilFunc,[.nilf]⟩),
 (185,⟨.func #[21] #[4] false,1,8,.nilFunc,[.nilf]⟩),
 (186,⟨.int .u64,1,8,.int .u64 0,[.d (.int .u64 0)]⟩),
 (187,⟨.func #[73,9,102] #[38] false,1,8,.nilFunc,[.nilf]⟩),
 (188,⟨.func #[] #[37] false,1,8,.nilFunc,[.nilf]⟩),
 (189,⟨.slice 192,1,24,.slice none 0 0,[.nils true 9]⟩),
 (190,⟨.func #[73,9,193] #[189] false,1,8,.nilFunc,[.nilf]⟩),
 (191,⟨.struct #[⟨"name",9,0,false, "", "weftway/parse",0⟩,⟨"e",43,1,false, "", "weftway/parse",16⟩],9,136,.agg #[.string ByteArray.empty,.int .u8 0,.int .i64 0,.string ByteArray.empty,.string ByteArray.empty,.string ByteArray.empty,.slice none 0 0,.slice none 0 0,.int .i64 0],[.d (.str ByteArray.empty),.d (.int .u8 0),.d (.int .i64 0),.d (.str ByteArray.empty),.d (.str ByteArray.empty),.d (.str ByteArray.empty),.nils false 1,.nils true 8,.d (.int .i64 0)]⟩)]
def TV:List (Nat×TI):=[(192,⟨.struct #[⟨"name",9,0,false, "", "weftway/parse",0⟩,⟨"e",43,1,false, "", "weftway/parse",16⟩],9,136,.agg #[.string ByteArray.empty,.int .u8 0,.int .i64 0,.string ByteArray.empty,.string ByteArray.empty,.string ByteArray.empty,.slice none 0 0,.slice none 0 0,.int .i64 0],[.d (.str ByteArray.empty),.d (.int .u8 0),.d (.int .i64 0),.d (.str ByteArray.empty),.d (.str ByteArray.empty),.d (.str ByteArray.empty),.nils false 1,.nils true 8,.d (.int .i64 0)]⟩),
 (193,⟨.func #[] #[192] false,1,8,.nilFunc,[.nilf]⟩),
 (194,⟨.func #[73,9,130] #[41] false,1,8,.nilFunc,[.nilf]⟩),
 (195,⟨.func #[5,3] #[43] false,1,8,.nilFunc,[.nilf]⟩),
 (196,⟨.slice 126,1,24,.slice none 0 0,[.nils false 1]⟩),
 (197,⟨.slice 199,1,24,.slice none 0 0,[.nils true 2]⟩),
 (198,⟨.struct #[⟨"start",3,0,false, "", "strings",0⟩,⟨"end",3,1,false, "", "strings",8⟩],2,16,.agg #[.int .i64 0,.int .i64 0],[.d (.int .i64 0),.d (.int .i64 0)]⟩),
 (199,⟨.struct #[⟨"start",3,0,false, "", "strings",0⟩,⟨"end",3,1,false, "", "strings",8⟩],2,16,.agg #[.int .i64 0,.int .i64 0],[.d (.int .i64 0),.d (.int .i64 0)]⟩),
 (200,⟨.int .u32,1,4,.int .u32 0,[.d (.int .u32 0)]⟩),
 (201,⟨.func #[202,21] #[4] false,1,8,.nilFunc,[.nilf]⟩),
 (202,⟨.pointer 206,1,8,.pointer none,[.nilp]⟩),
 (203,⟨.slice 209,1,24,.slice none 0 0,[.nils true 3]⟩),
 (204,⟨.slice 212,1,24,.slice none 0 0,[.nils true 3]⟩),
 (205,⟨.struct #[⟨"R16",203,0,false, "", "",0⟩,⟨"R32",204,1,false, "", "",24⟩,⟨"LatinOffset",3,2,false, "", "",48⟩],3,56,.agg #[.slice none 0 0,.slice none 0 0,.int .i64 0],[.nils true 3,.nils true 3,.d (.int .i64 0)]⟩),
 (206,⟨.struct #[⟨"R16",203,0,false, "", "",0⟩,⟨"R32",204,1,false, "", "",24⟩,⟨"LatinOffset",3,2,false, "", "",48⟩],3,56,.agg #[.slice none 0 0,.slice none 0 0,.int .i64 0],[.nils true 3,.nils true 3,.d (.int .i64 0)]⟩),
 (207,⟨.int .u16,1,2,.int .u16 0,[.d (.int .u16 0)]⟩)]
def TW:List (Nat×TI):=[(208,⟨.struct #[⟨"Lo",207,0,false, "", "",0⟩,⟨"Hi",207,1,false, "", "",2⟩,⟨"Stride",207,2,false, "", "",4⟩],3,6,.agg #[.int .u16 0,.int .u16 0,.int .u16 0],[.d (.int .u16 0),.d (.int .u16 0),.d (.int .u16 0)]⟩),
 (209,⟨.struct #[⟨"Lo",207,0,false, "", "",0⟩,⟨"Hi",207,1,false, "", "",2⟩,⟨"Stride",207,2,false, "", "",4⟩],3,6,.agg #[.int .u16 0,.int .u16 0,.int .u16 0],[.d (.int .u16 0),.d (.int .u16 0),.d (.int .u16 0)]⟩),
 (210,⟨.func #[203,207] #[4] false,1,8,.nilFunc,[.nilf]⟩),
 (211,⟨.struct #[⟨"Lo",200,0,false, "", "",0⟩,⟨"Hi",200,1,false, "", "",4⟩,⟨"Stride",200,2,false, "", "",8⟩],3,12,.agg #[.int .u32 0,.int .u32 0,.int .u32 0],[.d (.int .u32 0),.d (.int .u32 0),.d (.int .u32 0)]⟩),
 (212,⟨.struct #[⟨"Lo",200,0,false, "", "",0⟩,⟨"Hi",200,1,false, "", "",4⟩,⟨"Stride",200,2,false, "", "",8⟩],3,12,.agg #[.int .u32 0,.int .u32 0,.int .u32 0],[.d (.int .u32 0),.d (.int .u32 0),.d (.int .u32 0)]⟩),
 (213,⟨.func #[204,200] #[4] false,1,8,.nilFunc,[.nilf]⟩),
 (214,⟨.pointer 209,1,8,.pointer none,[.nilp]⟩),
 (215,⟨.pointer 212,1,8,.pointer none,[.nilp]⟩),
 (216,⟨.struct #[⟨"_interface",17,0,false, "", "runtime",0⟩,⟨"concrete",17,1,false, "", "runtime",8⟩,⟨"asserted",17,2,false, "", "runtime",16⟩,⟨"missingMethod",9,3,false, "", "runtime",24⟩],4,40,.agg #[.pointer none,.pointer none,.pointer none,.string ByteArray.empty],[.nilp,.nilp,.nilp,.d (.str ByteArray.empty)]⟩),
 (217,⟨.struct #[⟨"_interface",17,0,false, "", "runtime",0⟩,⟨"concrete",17,1,false, "", "runtime",8⟩,⟨"asserted",17,2,false, "", "runtime",16⟩,⟨"missingMethod",9,3,false, "", "runtime",24⟩],4,40,.agg #[.pointer none,.pointer none,.pointer none,.string ByteArray.empty],[.nilp,.nilp,.nilp,.d (.str ByteArray.empty)]⟩),
 (221,⟨.int .u8,1,1,.int .u8 0,[.d (.int .u8 0)]⟩),
 (222,⟨.int .u8,1,1,.int .u8 0,[.d (.int .u8 0)]⟩),
 (223,⟨.func #[230,230] #[4] false,1,8,.nilFunc,[.nilf]⟩)]
def TX:List (Nat×TI):=[(224,⟨.pointer 5,1,8,.pointer none,[.nilp]⟩),
 (225,⟨.int .i32,1,4,.int .i32 0,[.d (.int .i32 0)]⟩),
 (226,⟨.int .i32,1,4,.int .i32 0,[.d (.int .i32 0)]⟩),
 (227,⟨.struct #[⟨"Size_",12,0,false, "", "",0⟩,⟨"PtrBytes",12,1,false, "", "",8⟩,⟨"Hash",200,2,false, "", "",16⟩,⟨"TFlag",221,3,false, "", "",20⟩,⟨"Align_",5,4,false, "", "",21⟩,⟨"FieldAlign_",5,5,false, "", "",22⟩,⟨"Kind_",222,6,false, "", "",23⟩,⟨"Equal",223,7,false, "", "",24⟩,⟨"GCData",224,8,false, "", "",32⟩,⟨"Str",225,9,false, "", "",40⟩,⟨"PtrToThis",226,10,false, "", "",44⟩],11,48,.agg #[.int .u64 0,.int .u64 0,.int .u32 0,.int .u8 0,.int .u8 0,.int .u8 0,.int .u8 0,.nilFunc,.pointer none,.int .i32 0,.int .i32 0],[.d (.int .u64 0),.d (.int .u64 0),.d (.int .u32 0),.d (.int .u8 0),.d (.int .u8 0),.d (.int .u8 0),.d (.int .u8 0),.nilf,.nilp,.d (.int .i32 0),.d (.int .i32 0)]⟩),
 (228,⟨.struct #[⟨"Size_",12,0,false, "", "",0⟩,⟨"PtrBytes",12,1,false, "", "",8⟩,⟨"Hash",200,2,false, "", "",16⟩,⟨"TFlag",221,3,false, "", "",20⟩,⟨"Align_",5,4,false, "", "",21⟩,⟨"FieldAlign_",5,5,false, "", "",22⟩,⟨"Kind_",222,6,false, "", "",23⟩,⟨"Equal",223,7,false, "", "",24⟩,⟨"GCData",224,8,false, "", "",32⟩,⟨"Str",225,9,false, "", "",40⟩,⟨"PtrToThis",226,10,false, "", "",44⟩],11,48,.agg #[.int .u64 0,.int .u64 0,.int .u32 0,.int .u8 0,.int .u8 0,.int .u8 0,.int .u8 0,.nilFunc,.pointer none,.int .i32 0,.int .i32 0],[.d (.int .u64 0),.d (.int .u64 0),.d (.int .u32 0),.d (.int .u8 0),.d (.int .u8 0),.d (.int .u8 0),.d (.int .u8 0),.nilf,.nilp,.d (.int .i32 0),.d (.int .i32 0)]⟩),
 (229,⟨.func #[] #[145] false,1,8,.nilFunc,[.nilf]⟩)]
def TZ:List (List (Nat×TI)):=[WB,WC,WD,WE,WG,WH,WI,WJ,WK,WL,TT,TU,TV,TW,TX]
def tab:Types:=RO TZ
theorem Xx:Bs Tryz.prog WB:=⟨⟨by kernel_rfl,by kernel_rfl,by kernel_rfl⟩,⟨by kernel_rfl,by kernel_rfl,by kernel_rfl⟩,⟨by kernel_rfl,by kernel_rfl,by kernel_rfl⟩,⟨by kernel_rfl,by kernel_rfl,by kernel_rfl⟩,⟨by kernel_rfl,by kernel_rfl,by kernel_rfl⟩,⟨by kernel_rfl,by kernel_rfl,by kernel_rfl⟩,⟨by kernel_rfl,by kernel_rfl,by kernel_rfl⟩,⟨by kernel_rfl,by kernel_rfl,by kernel_rfl⟩,⟨by kernel_rfl,by kernel_rfl,by kernel_rfl⟩,⟨by kernel_rfl,by kernel_rfl,by kernel_rfl⟩,⟨by kernel_rfl,by kernel_rfl,by kernel_rfl⟩,⟨by kernel_rfl,by kernel_rfl,by kernel_rfl⟩,⟨by kernel_rfl,by kernel_rfl,by kernel_rfl⟩,⟨by kernel_rfl,by kernel_rfl,by kernel_rfl⟩,⟨by kernel_rfl,by kernel_rfl,by kernel_rfl⟩,trivial⟩
theorem Xy:Bs Tryz.prog WC:=⟨⟨by kernel_rfl,by kernel_rfl,by kernel_rfl⟩,⟨by kernel_rfl,by kernel_rfl,by kernel_rfl⟩,⟨by kernel_rfl,by kernel_rfl,by kernel_rfl⟩,⟨by kernel_rfl,by kernel_rfl,by kernel_rfl⟩,⟨by kernel_rfl,by kernel_rfl,by kernel_rfl⟩,⟨by kernel_rfl,by kernel_rfl,by kernel_rfl⟩,⟨by kernel_rfl,by kernel_rfl,by kernel_rfl⟩,⟨by kernel_rfl,by kernel_rfl,by kernel_rfl⟩,⟨by kernel_rfl,by kernel_rfl,by kernel_rfl⟩,⟨by kernel_rfl,by kernel_rfl,by kernel_rfl⟩,⟨by kernel_rfl,by kernel_rfl,by kernel_rfl⟩,⟨by kernel_rfl,by kernel_rfl,by kernel_rfl⟩,⟨by kernel_rfl,by kernel_rfl,by kernel_rfl⟩,⟨by kernel_rfl,by kernel_rfl,by kernel_rfl⟩,⟨by kernel_rfl,by kernel_rfl,by kernel_rfl⟩,trivial⟩
theorem Xz:Bs Tryz.prog WD:=⟨⟨by kernel_rfl,by kernel_rfl,by kernel_rfl⟩,⟨by kernel_rfl,by kernel_rfl,by kernel_rfl⟩,⟨by kernel_rfl,by kernel_rfl,by kernel_rfl⟩,⟨by kernel_rfl,by kernel_rfl,by kernel_rfl⟩,⟨by kernel_rfl,by kernel_rfl,by kernel_rfl⟩,⟨by kernel_rfl,by kernel_rfl,by kernel_rfl⟩,⟨by kernel_rfl,by kernel_rfl,by kernel_rfl⟩,⟨by kernel_rfl,by kernel_rfl,by kernel_rfl⟩,⟨by kernel_rfl,by kernel_rfl,by kernel_rfl⟩,⟨by kernel_rfl,by kernel_rfl,by kernel_rfl⟩,⟨by kernel_rfl,by kernel_rfl,by kernel_rfl⟩,⟨by kernel_rfl,by kernel_rfl,by kernel_rfl⟩,⟨by kernel_rfl,by kernel_rfl,by kernel_rfl⟩,⟨by kernel_rfl,by kernel_rfl,by kernel_rfl⟩,⟨by kernel_rfl,by kernel_rfl,by kernel_rfl⟩,⟨by kernel_rfl,by kernel_rfl,by kernel_rfl⟩,trivial⟩
theorem X0:Bs Tryz.prog WE:=⟨⟨by kernel_rfl,by kernel_rfl,by kernel_rfl⟩,⟨by kernel_rfl,by kernel_rfl,by kernel_rfl⟩,⟨by kernel_rfl,by kernel_rfl,by kernel_rfl⟩,⟨by kernel_rfl,by kernel_rfl,by kernel_rfl⟩,⟨by kernel_rfl,by kernel_rfl,by kernel_rfl⟩,⟨by kernel_rfl,by kernel_rfl,by kernel_rfl⟩,⟨by kernel_rfl,by kernel_rfl,by kernel_rfl⟩,⟨by kernel_rfl,by kernel_rfl,by kernel_rfl⟩,⟨by kernel_rfl,by kernel_rfl,by kernel_rfl⟩,⟨by kernel_rfl,by kernel_rfl,by kernel_rfl⟩,⟨by kernel_rfl,by kernel_rfl,by kernel_rfl⟩,⟨by kernel_rfl,by kernel_rfl,by kernel_rfl⟩,⟨by kernel_rfl,by kernel_rfl,by kernel_rfl⟩,⟨by kernel_rfl,by kernel_rfl,by kernel_rfl⟩,⟨by kernel_rfl,by kernel_rfl,by kernel_rfl⟩,trivial⟩
theorem X1:Bs Tryz.prog WG:=⟨⟨by kernel_rfl,by kernel_rfl,by kernel_rfl⟩,⟨by kernel_rfl,by kernel_rfl,by kernel_rfl⟩,⟨by kernel_rfl,by kernel_rfl,by kernel_rfl⟩,⟨by kernel_rfl,by kernel_rfl,by kernel_rfl⟩,⟨by kernel_rfl,by kernel_rfl,by kernel_rfl⟩,⟨by kernel_rfl,by kernel_rfl,by kernel_rfl⟩,⟨by kernel_rfl,by kernel_rfl,by kernel_rfl⟩,⟨by kernel_rfl,by kernel_rfl,by kernel_rfl⟩,⟨by kernel_rfl,by kernel_rfl,by kernel_rfl⟩,⟨by kernel_rfl,by kernel_rfl,by kernel_rfl⟩,⟨by kernel_rfl,by kernel_rfl,by kernel_rfl⟩,⟨by kernel_rfl,by kernel_rfl,by kernel_rfl⟩,⟨by kernel_rfl,by kernel_rfl,by kernel_rfl⟩,⟨by kernel_rfl,by kernel_rfl,by kernel_rfl⟩,⟨by kernel_rfl,by kernel_rfl,by kernel_rfl⟩,trivial⟩
theorem X3:Bs Tryz.prog WH:=⟨⟨by kernel_rfl,by kernel_rfl,by kernel_rfl⟩,⟨by kernel_rfl,by kernel_rfl,by kernel_rfl⟩,⟨by kernel_rfl,by kernel_rfl,by kernel_rfl⟩,⟨by kernel_rfl,by kernel_rfl,by kernel_rfl⟩,⟨by kernel_rfl,by kernel_rfl,by kernel_rfl⟩,⟨by kernel_rfl,by kernel_rfl,by kernel_rfl⟩,⟨by kernel_rfl,by kernel_rfl,by kernel_rfl⟩,⟨by kernel_rfl,by kernel_rfl,by kernel_rfl⟩,⟨by kernel_rfl,by kernel_rfl,by kernel_rfl⟩,⟨by kernel_rfl,by kernel_rfl,by kernel_rfl⟩,⟨by kernel_rfl,by kernel_rfl,by kernel_rfl⟩,⟨by kernel_rfl,by kernel_rfl,by kernel_rfl⟩,⟨by kernel_rfl,by kernel_rfl,by kernel_rfl⟩,⟨by kernel_rfl,by kernel_rfl,by kernel_rfl⟩,⟨by kernel_rfl,by kernel_rfl,by kernel_rfl⟩,⟨by kernel_rfl,by kernel_rfl,by kernel_rfl⟩,trivial⟩
theorem X4:Bs Tryz.prog WI:=⟨⟨by kernel_rfl,by kernel_rfl,by kernel_rfl⟩,⟨by kernel_rfl,by kernel_rfl,by kernel_rfl⟩,⟨by kernel_rfl,by kernel_rfl,by kernel_rfl⟩,⟨by kernel_rfl,by kernel_rfl,by kernel_rfl⟩,⟨by kernel_rfl,by kernel_rfl,by kernel_rfl⟩,⟨by kernel_rfl,by kernel_rfl,by kernel_rfl⟩,⟨by kernel_rfl,by kernel_rfl,by kernel_rfl⟩,⟨by kernel_rfl,by kernel_rfl,by kernel_rfl⟩,⟨by kernel_rfl,by kernel_rfl,by kernel_rfl⟩,⟨by kernel_rfl,by kernel_rfl,by kernel_rfl⟩,⟨by kernel_rfl,by kernel_rfl,by kernel_rfl⟩,⟨by kernel_rfl,by kernel_rfl,by kernel_rfl⟩,⟨by kernel_rfl,by kernel_rfl,by kernel_rfl⟩,⟨by kernel_rfl,by kernel_rfl,by kernel_rfl⟩,⟨by kernel_rfl,by kernel_rfl,by kernel_rfl⟩,trivial⟩
theorem X5:Bs Tryz.prog WJ:=⟨⟨by kernel_rfl,by kernel_rfl,by kernel_rfl⟩,⟨by kernel_rfl,by kernel_rfl,by kernel_rfl⟩,⟨by kernel_rfl,by kernel_rfl,by kernel_rfl⟩,⟨by kernel_rfl,by kernel_rfl,by kernel_rfl⟩,⟨by kernel_rfl,by kernel_rfl,by kernel_rfl⟩,⟨by kernel_rfl,by kernel_rfl,by kernel_rfl⟩,⟨by kernel_rfl,by kernel_rfl,by kernel_rfl⟩,⟨by kernel_rfl,by kernel_rfl,by kernel_rfl⟩,⟨by kernel_rfl,by kernel_rfl,by kernel_rfl⟩,⟨by kernel_rfl,by kernel_rfl,by kernel_rfl⟩,⟨by kernel_rfl,by kernel_rfl,by kernel_rfl⟩,⟨by kernel_rfl,by kernel_rfl,by kernel_rfl⟩,⟨by kernel_rfl,by kernel_rfl,by kernel_rfl⟩,trivial⟩
theorem X6:Bs Tryz.prog WK:=⟨⟨by kernel_rfl,by kernel_rfl,by kernel_rfl⟩,⟨by kernel_rfl,by kernel_rfl,by kernel_rfl⟩,⟨by kernel_rfl,by kernel_rfl,by kernel_rfl⟩,⟨by kernel_rfl,by kernel_rfl,by kernel_rfl⟩,⟨by kernel_rfl,by kernel_rfl,by kernel_rfl⟩,⟨by kernel_rfl,by kernel_rfl,by kernel_rfl⟩,⟨by kernel_rfl,by kernel_rfl,by kernel_rfl⟩,⟨by kernel_rfl,by kernel_rfl,by kernel_rfl⟩,⟨by kernel_rfl,by kernel_rfl,by kernel_rfl⟩,⟨by kernel_rfl,by kernel_rfl,by kernel_rfl⟩,⟨by kernel_rfl,by kernel_rfl,by kernel_rfl⟩,⟨by kernel_rfl,by kernel_rfl,by kernel_rfl⟩,⟨by kernel_rfl,by kernel_rfl,by kernel_rfl⟩,⟨by kernel_rfl,by kernel_rfl,by kernel_rfl⟩,trivial⟩
theorem X7:Bs Tryz.prog WL:=⟨⟨by kernel_rfl,by kernel_rfl,by kernel_rfl⟩,⟨by kernel_rfl,by kernel_rfl,by kernel_rfl⟩,⟨by kernel_rfl,by kernel_rfl,by kernel_rfl⟩,⟨by kernel_rfl,by kernel_rfl,by kernel_rfl⟩,⟨by kernel_rfl,by kernel_rfl,by kernel_rfl⟩,⟨by kernel_rfl,by kernel_rfl,by kernel_rfl⟩,⟨by kernel_rfl,by kernel_rfl,by kernel_rfl⟩,⟨by kernel_rfl,by kernel_rfl,by kernel_rfl⟩,⟨by kernel_rfl,by kernel_rfl,by kernel_rfl⟩,⟨by kernel_rfl,by kernel_rfl,by kernel_rfl⟩,⟨by kernel_rfl,by kernel_rfl,by kernel_rfl⟩,⟨by kernel_rfl,by kernel_rfl,by kernel_rfl⟩,⟨by kernel_rfl,by kernel_rfl,by kernel_rfl⟩,⟨by kernel_rfl,by kernel_rfl,by kernel_rfl⟩,trivial⟩
theorem Ww:Bs Tryz.prog TT:=⟨⟨by kernel_rfl,by kernel_rfl,by kernel_rfl⟩,⟨by kernel_rfl,by kernel_rfl,by kernel_rfl⟩,⟨by kernel_rfl,by kernel_rfl,by kernel_rfl⟩,⟨by kernel_rfl,by kernel_rfl,by kernel_rfl⟩,⟨by kernel_rfl,by kernel_rfl,by kernel_rfl⟩,⟨by kernel_rfl,by kernel_rfl,by kernel_rfl⟩,⟨by kernel_rfl,by kernel_rfl,by kernel_rfl⟩,⟨by kernel_rfl,by kernel_rfl,by kernel_rfl⟩,⟨by kernel_rfl,by kernel_rfl,by kernel_rfl⟩,⟨by kernel_rfl,by kernel_rfl,by kernel_rfl⟩,⟨by kernel_rfl,by kernel_rfl,by kernel_rfl⟩,⟨by kernel_rfl,by kernel_rfl,by kernel_rfl⟩,⟨by kernel_rfl,by kernel_rfl,by kernel_rfl⟩,⟨by kernel_rfl,by kernel_rfl,by kernel_rfl⟩,⟨by kernel_rfl,by kernel_rfl,by kernel_rfl⟩,trivial⟩
theorem Wx:Bs Tryz.prog TU:=⟨⟨by kernel_rfl,by kernel_rfl,by kernel_rfl⟩,⟨by kernel_rfl,by kernel_rfl,by kernel_rfl⟩,⟨by kernel_rfl,by kernel_rfl,by kernel_rfl⟩,⟨by kernel_rfl,by kernel_rfl,by kernel_rfl⟩,⟨by kernel_rfl,by kernel_rfl,by kernel_rfl⟩,⟨by kernel_rfl,by kernel_rfl,by kernel_rfl⟩,⟨by kernel_rfl,by kernel_rfl,by kernel_rfl⟩,⟨by kernel_rfl,by kernel_rfl,by kernel_rfl⟩,⟨by kernel_rfl,by kernel_rfl,by kernel_rfl⟩,⟨by kernel_rfl,by kernel_rfl,by kernel_rfl⟩,⟨by kernel_rfl,by kernel_rfl,by kernel_rfl⟩,⟨by kernel_rfl,by kernel_rfl,by kernel_rfl⟩,⟨by kernel_rfl,by kernel_rfl,by kernel_rfl⟩,⟨by kernel_rfl,by kernel_rfl,by kernel_rfl⟩,⟨by kernel_rfl,by kernel_rfl,by kernel_rfl⟩,trivial⟩
theorem Wy:Bs Tryz.prog TV:=⟨⟨by kernel_rfl,by kernel_rfl,by kernel_rfl⟩,⟨by kernel_rfl,by kernel_rfl,by kernel_rfl⟩,⟨by kernel_rfl,by kernel_rfl,by kernel_rfl⟩,⟨by kernel_rfl,by kernel_rfl,by kernel_rfl⟩,⟨by kernel_rfl,by kernel_rfl,by kernel_rfl⟩,⟨by kernel_rfl,by kernel_rfl,by kernel_rfl⟩,⟨by kernel_rfl,by kernel_rfl,by kernel_rfl⟩,⟨by kernel_rfl,by kernel_rfl,by kernel_rfl⟩,⟨by kernel_rfl,by kernel_rfl,by kernel_rfl⟩,⟨by kernel_rfl,by kernel_rfl,by kernel_rfl⟩,⟨by kernel_rfl,by kernel_rfl,by kernel_rfl⟩,⟨by kernel_rfl,by kernel_rfl,by kernel_rfl⟩,⟨by kernel_rfl,by kernel_rfl,by kernel_rfl⟩,⟨by kernel_rfl,by kernel_rfl,by kernel_rfl⟩,⟨by kernel_rfl,by kernel_rfl,by kernel_rfl⟩,⟨by kernel_rfl,by kernel_rfl,by kernel_rfl⟩,trivial⟩
theorem Wz:Bs Tryz.prog TW:=⟨⟨by kernel_rfl,by kernel_rfl,by kernel_rfl⟩,⟨by kernel_rfl,by kernel_rfl,by kernel_rfl⟩,⟨by kernel_rfl,by kernel_rfl,by kernel_rfl⟩,⟨by kernel_rfl,by kernel_rfl,by kernel_rfl⟩,⟨by kernel_rfl,by kernel_rfl,by kernel_rfl⟩,⟨by kernel_rfl,by kernel_rfl,by kernel_rfl⟩,⟨by kernel_rfl,by kernel_rfl,by kernel_rfl⟩,⟨by kernel_rfl,by kernel_rfl,by kernel_rfl⟩,⟨by kernel_rfl,by kernel_rfl,by kernel_rfl⟩,⟨by kernel_rfl,by kernel_rfl,by kernel_rfl⟩,⟨by kernel_rfl,by kernel_rfl,by kernel_rfl⟩,⟨by kernel_rfl,by kernel_rfl,by kernel_rfl⟩,⟨by kernel_rfl,by kernel_rfl,by kernel_rfl⟩,trivial⟩
theorem W0:Bs Tryz.prog TX:=⟨⟨by kernel_rfl,by kernel_rfl,by kernel_rfl⟩,⟨by kernel_rfl,by kernel_rfl,by kernel_rfl⟩,⟨by kernel_rfl,by kernel_rfl,by kernel_rfl⟩,⟨by kernel_rfl,by kernel_rfl,by kernel_rfl⟩,⟨by kernel_rfl,by kernel_rfl,by kernel_rfl⟩,⟨by kernel_rfl,by kernel_rfl,by kernel_rfl⟩,trivial⟩
theorem RV:E7 Tryz.prog TZ:=⟨Xx,Xy,Xz,X0,X1,X3,X4,X5,X6,X7,Ww,Wx,Wy,Wz,W0,trivial⟩
theorem Ab:BV Tryz.prog tab:=TE RV
theorem AO:Bo tab:=SO RV
end Go.Proofs.YtmggjbjpklecgaaGreatDoor
