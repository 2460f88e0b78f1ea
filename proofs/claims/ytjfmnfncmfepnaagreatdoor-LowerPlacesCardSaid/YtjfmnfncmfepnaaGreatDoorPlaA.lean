/- Part of a proof. No condition. (Part 1.) -/
import Derived.WalkKit
import Derived.Orders
import Derived.Laws.AppendOwn
import Derived.RangeFuncLeaves
import Derived.RangeFuncCalls
import Derived.RangeFuncRecord
import Derived.Deep.MidRow
import Derived.Laws.Tables
set_option linter.unusedVariables false
set_option linter.unusedSimpArgs false
set_option linter.unusedSectionVars false
namespace Go.AM
open Go Go.RowKit
inductive D where
 | int (k:IntKind) (n:Int)
 | bool (b:Bool)
 | str (s:ByteArray)
 | agg (cs:List D)
 | list (ag:Bool) (sz:Nat) (rows:List D)
 | nil
 | box (cs:List D)
 | map (sz:Nat) (rows:List D)
def D.cells:D→List D
 | .agg cs=>cs
 | x=>[x]
def D.isAgg:D→Bool
 | .agg _=>true
 | _=>false
def D.fits (ag:Bool) (sz:Nat) (x:D):Prop:=x.isAgg=ag∧x.cells.length=sz∧∀c∈x.cells,c.isAgg=false
def rowOf (ag:Bool) (ds:List D):D:=
 match ag with
 | true=>.agg ds
 | false=>match ds with
  | [d]=>d
  | _=>.agg ds
def rowsOf (ag:Bool) (sz n:Nat) (ds:List D):List D:=(List.range n).map fun i=>rowOf ag ((ds.drop (i*sz)).take sz)
theorem GR {ag:Bool}{sz n:Nat}{ds:List D}{i:Nat}{r:D}(h:(rowsOf ag sz n ds)[i]?=some r):i<n∧r=rowOf ag ((ds.drop (i*sz)).take sz):=by
 simp only[rowsOf,List.getElem?_map,Option.map_eq_some_iff]at h;grind
theorem I4 {ag:Bool}{sz n:Nat}{ds:List D}:(rowsOf ag sz n ds).length=n:=by simp[rowsOf]
abbrev Ak:=Nat→Nat→Prop
inductive AZ (w:World) (Z:Ak):D→Value→Prop where
 | int (k:IntKind) (n:Int):AZ w Z (.int k n) (.int k n)
 | bool (b:Bool):AZ w Z (.bool b) (.bool b)
 | str (s:ByteArray):AZ w Z (.str s) (.string s)
 | agg (cs:List D) (vs:Array Value) (hs:vs.size=cs.length) (h1:∀c∈cs,c.isAgg=false)
   (h:∀(j:Nat) c v,cs[j]?=some c→vs[j]?=some v→AZ w Z c v):AZ w Z (.agg cs) (.agg vs)
 | nil:AZ w Z .nil (.pointer none)
 | box (cs:List D) (v:Value) (hv:v.oneCell'=true):AZ w Z (.box cs) v
 | map (sz:Nat) (rows:List D) (v:Value) (hv:v.oneCell'=true):AZ w Z (.map sz rows) v
 | list (ag:Bool) (sz:Nat) (rows:List D) (a:Option Addr) (cap b o:Nat) (U:Nat→Nat→Value)
   (hcap:rows.length≤cap) (hmax:cap≤maxLen) (hfit:∀r∈rows,r.fits ag sz)
   (ha:rows≠[]→a=some ⟨b,o,none⟩)
   (hc:∀(i:Nat) r (j:Nat) c,rows[i]?=some r→r.cells[j]?=some c→w.cell? ⟨b,o+(i*sz+j),none⟩=some (U i j)∧¬Z b (o+(i*sz+j)))
   (hr:∀(i:Nat) r (j:Nat) c,rows[i]?=some r→r.cells[j]?=some c→AZ w Z c (U i j)):AZ w Z (.list ag sz rows) (.slice a rows.length cap)
section
variable {w:World}{Z:Ak}{v:Value}
theorem AZ.mono {w':World}{Z':Ak}(hw:∀b o u,w.cell? ⟨b,o,none⟩=some u→¬Z b o→w'.cell? ⟨b,o,none⟩=some u∧¬Z' b o)
  {x:D} (h:AZ w Z x v):AZ w' Z' x v:=by
 induction h with
 | int k n=>exact .int k n
 | bool b=>exact .bool b
 | str s=>exact .str s
 | nil=>exact .nil
 | box cs v hv=>exact .box cs v hv
 | map sz rows v hv=>exact .map sz rows v hv
 | agg cs vs hs h1 _ ih=>exact .agg cs vs hs h1 ih
 | list ag sz rows a cap b o U hcap hmax hfit ha hc _ ih=>
  exact .list ag sz rows a cap b o U hcap hmax hfit ha (fun i r j c h1 h2=>hw _ _ _ (hc i r j c h1 h2).1 (hc i r j c h1 h2).2) ih
inductive Kd where
 | row
 | flat
 | box
 | map
 | fmap (e:Bool)
def Kd.IT:Kd→Bool
 | .flat=>true
 | .fmap _=>true
 | _=>false
def Kd.isM:Kd→Bool
 | .map=>true
 | .fmap _=>true
 | _=>false
def D.con:D→Option (Kd×Bool×Nat×List D)
 | .list ag sz rows=>some (.row,ag,sz,rows)
 | .box cs=>some (.box,true,cs.length,[.agg cs])
 | .map sz rows=>some (.map,true,sz,rows)
 | _=>none
def Jl:Kd→Bool→Nat→List D→Option D
 | .row,ag,sz,rows=>some (.list ag sz rows)
 | .flat,_,_,_=>none
 | .fmap _,_,_,_=>none
 | .box,ag,sz,rows=>match ag with
  | true=>match rows with
   | [.agg cs]=>match Nat.beq cs.length sz with
    | true=>some (.box cs)
    | false=>none
   | _=>none
  | false=>none
 | .map,ag,sz,rows=>match ag with
  | true=>some (.map sz rows)
  | false=>none
def blk:Value→Option Nat
 | .pointer (some a)=>some a.block
 | .slice (some a) _ _=>some a.block
 | .map (some r)=>some r
 | _=>none
def O9 (m:Array MapEntry):List Value:=m.toList.flatMap fun e=>e.key::e.val.cells.toList
def XF (b:Bool) (v:Value):Prop:=match b with
 | true=>∃vs,v= .agg vs
 | false=>v.oneCell'=true
def Holds (w:World) (k:Kd) (sz:Nat) (v:Value) (n:Nat) (xs:List Value):Prop:=
 match k with
 | .row=>∃e,w.ownsRow 0 e sz v n xs
 | .flat=>∃e,w.ownsRow 0 e sz v n xs
 | .box=>n=1∧∃b c e,v= .pointer (some ⟨b,0,none⟩)∧w.heap[b]?=some (.cells c e (0,0))∧c.toList=xs∧c.size=sz
 | .map=>∃r m clock,v= .map (some r)∧w.heap[r]?=some (.map m clock)∧m.size=n∧(∀e∈m,e.born<clock)∧(∀e∈m,e.val.cells.size+1=sz)∧O9 m=xs
 | .fmap b=>∃r m clock,v= .map (some r)∧w.heap[r]?=some (.map m clock)∧m.size=n∧(∀e∈m,e.born<clock)∧(∀e∈m,e.val.cells.size+1=sz)∧(∀e∈m,XF b e.val)∧O9 m=xs
inductive B6 (w:World):D→Value→(Nat→Prop)→Prop where
 | int (k:IntKind) (n:Int):B6 w (.int k n) (.int k n) (fun _=>False)
 | bool (b:Bool):B6 w (.bool b) (.bool b) (fun _=>False)
 | str (s:ByteArray):B6 w (.str s) (.string s) (fun _=>False)
 | nil:B6 w .nil (.pointer none) (fun _=>False)
 | con (k:Kd) (ag:Bool) (sz:Nat) (rows:List D) (x:D) (v:Value) (xs:List Value) (U:Nat→Nat→Value) (T:Nat→Nat→Nat→Prop) (S:Nat→Prop)
   (hcon:x.con=some (k,ag,sz,rows)) (hsz:0<sz) (hfit:∀r∈rows,r.fits ag sz) (hx:Holds w k sz v rows.length xs)
   (hU:∀(i:Nat) r (j:Nat) c,rows[i]?=some r→r.cells[j]?=some c→xs[i*sz+j]?=some (U i j))
   (hr:∀(i:Nat) r (j:Nat) c,rows[i]?=some r→r.cells[j]?=some c→B6 w c (U i j) (T i j))
   (hT:∀i j b,T i j b→∃r c,rows[i]?=some r∧r.cells[j]?=some c)
   (hd1:∀i j b,T i j b→blk v≠some b)
   (hd2:∀i j i' j' b,T i j b→T i' j' b→i=i'∧j=j')
   (hS:∀b,S b↔blk v=some b∨∃i j,T i j b):B6 w x v S
def Cm (w:World) (Z:Ak) (k:Kd) (c:D) (u:Value) (T:Nat→Prop):Prop:=match k.IT with
 | true=>(AZ w Z c u∧c.isAgg=false)∧∀b,¬T b
 | false=>B6 w c u T
variable {u:Value}{T:Nat→Prop}
theorem Cm.own {k:Kd}{c:D}(hk:k.IT=false):Cm w Z k c u T↔B6 w c u T:=by
 unfold Cm;rw[hk]
theorem Cm.fz {k:Kd}{c:D}(hk:k.IT=true):Cm w Z k c u T↔(AZ w Z c u∧c.isAgg=false)∧∀b,¬T b:=by
 unfold Cm;rw[hk]
theorem Cm.map {w':World}{Z':Ak}{k:Kd}{c:D}(r:Cm w Z k c u T) (hD:AZ w Z c u→AZ w' Z' c u) (hO:B6 w c u T→B6 w' c u T):Cm w' Z' k c u T:=by
 cases h:k.IT with
 | true=>rw[Cm.fz h]at r ⊢;simp_all
 | false=>rw[Cm.own h]at r ⊢;exact hO r
theorem AZ.BR {x:D}(h:AZ w Z x v) (hx:x.isAgg=false):v.oneCell'=true:=by
 cases h<;>first | rfl | assumption | simp[D.isAgg]at hx
theorem D6 (h:v.oneCell'=true):v.cells=#[v]:=by
 cases v<;>first | rfl | trivial
theorem AZ.cellsOf {x:D}(h:AZ w Z x v):
  v.cells.size=x.cells.length∧(∀(j:Nat) c u,x.cells[j]?=some c→v.cells[j]?=some u→AZ w Z c u∧c.isAgg=false):=by
 cases hx:x.isAgg with
 | true=>
  cases h with
  | agg cs vs hs h1 h=>
   refine⟨hs,fun j c u hc hu=>⟨h j c u hc hu,h1 c (List.mem_of_getElem? hc)⟩⟩
  | _=>simp[D.isAgg]at hx
 | false=>
  have e1:x.cells=[x]:=by cases x<;>first | rfl | simp[D.isAgg]at hx
  rw[e1,D6 (h.BR hx)];grind
inductive Id where
 | loc (n:Nat)
 | ext (n:Nat)
def Id.beq:Id→Id→Bool
 | .loc a,.loc b=>Nat.beq a b
 | .ext a,.ext b=>Nat.beq a b
 | _,_=>false
theorem Id.beq_iff {i j:Id}:Id.beq i j=true↔i=j:=by
 cases i<;>cases j<;>simp[Id.beq]
theorem Id.beq_false {i j:Id}:Id.beq i j=false↔i≠j:=by
 rw[←Bool.not_eq_true,Id.beq_iff]
end
instance:DecidableEq Id:=fun i j=>if h:Id.beq i j=true then .isTrue (Id.beq_iff.1 h)else .isFalse (fun e=>h (Id.beq_iff.2 e))
inductive FC where
 | p (i:Id)
 | d (x:D)
 | h
def FC.A0 (m:Id→Id):FC→FC
 | .p i=>.p (m i)
 | .d x=>.d x
 | .h=>.h
def fill:List FC→List D→List FC
 | [],_=>[]
 | .h::r,d::ds=>.d d::fill r ds
 | c::r,ds=>c::fill r ds
theorem Ep (m:Id→Id):∀(cs:List FC) (ds:List D),(fill cs ds).map (FC.A0 m)=fill (cs.map (FC.A0 m)) ds
 | [],_=>rfl
 | .h::r,[]=>by simp[fill,FC.A0,Ep m r]
 | .h::r,d::ds=>by simp[fill,FC.A0,Ep m r]
 | .p i::r,ds=>by simp[fill,FC.A0,Ep m r]
 | .d x::r,ds=>by simp[fill,FC.A0,Ep m r]
inductive CV where
 | un
 | d (x:D)
 | ptr (i:Id) (o:Nat)
 | row (ag:Bool) (sz:Nat) (x:D)
 | rp (cs:List D)
 | nilp
 | fn (f:Nat) (cap:List Id)
 | nilf
 | nils (ag:Bool) (sz:Nat)
 | tl (ag:Bool) (sz:Nat) (rows:List D)
 | lst (i:Id) (ag:Bool) (sz:Nat) (rows:List D)
 | sl (i:Id) (n:Nat)
 | map (i:Id)
 | nilm
 | ap (i:Id) (base sz k o:Nat)
 | ow (i:Id)
 | op (i:Id) (sz k o:Nat)
 | yl (i:Id)
 | bm (f:Nat) (i:Id)
 | fz (f:Nat) (cs:List FC)
 | fb (i:Id)
 | kv (v:Value)
inductive V1 where
 | d (x:D)
 | c (x:CV)
 | agg (cs:List CV)
inductive AV where
 | u
 | v (x:V1)
 | t (xs:List V1)
 | df (f:Nat) (cs:List FC) (rows:List D)
structure RF where
 params:Array Tmp
 assign:Code
 body:Code
 nt:Nat
abbrev AFg:=Int×List D×List D
abbrev tL:=(ByteArray×Bool)×Int
def AFh (x:ByteArray×Bool):Value:=.agg #[.string x.1,.bool x.2]
def AFi (x:tL):Value×Value:=(AFh x.1,.int .i64 x.2)
def zZ (es:List MapEntry) (m:List tL):Prop:=es.map (fun e=>(e.key,e.val))=m.map AFi
inductive AD where
 | cells (cs:List CV)
 | tok (n sz:Nat) (e:TypeId)
 | map (kt et:TypeId) (es:List tL)
 | arr (cs1:List CV) (ag:Bool) (sz:Nat) (rows:List D) (cs2:List CV)
 | tree (kd:Kd) (ag:Bool) (sz:Nat) (rows:List D) (foc:Option (Nat×List CV))
 | pmap (n1 sz n:Nat) (rows:List AFg) (foc:Option (Nat×Id))
 | part (c:Nat) (ag:Bool) (sz:Nat) (rows:List D)
 | fnl (f:Nat) (cs:List FC) (rows:List D)
 | gone
 | rnd (r:Unit→RF) (sl:List (Nat×AV))
 | rndX (j:Option Nat)
def CV.A0 (m:Id→Id):CV→CV
 | .ptr i o=>.ptr (m i) o
 | .fn f cap=>.fn f (cap.map m)
 | .lst i ag sz rows=>.lst (m i) ag sz rows
 | .sl i n=>.sl (m i) n
 | .map i=>.map (m i)
 | .ap i b sz k o=>.ap (m i) b sz k o
 | .ow i=>.ow (m i)
 | .op i sz k o=>.op (m i) sz k o
 | .yl i=>.yl (m i)
 | .bm f i=>.bm f (m i)
 | .fz f cs=>.fz f (cs.map (FC.A0 m))
 | .fb i=>.fb (m i)
 | c=>c
def V1.A0 (m:Id→Id):V1→V1
 | .d x=>.d x
 | .c x=>.c (x.A0 m)
 | .agg cs=>.agg (cs.map (CV.A0 m))
def AV.A0 (m:Id→Id):AV→AV
 | .u=>.u
 | .v x=>.v (x.A0 m)
 | .t xs=>.t (xs.map (V1.A0 m))
 | .df f cs rows=>.df f (cs.map (FC.A0 m)) rows
def AD.A0 (m:Id→Id):AD→AD
 | .cells cs=>.cells (cs.map (CV.A0 m))
 | .tok n sz e=>.tok n sz e
 | .map kt et es=>.map kt et es
 | .arr cs1 ag sz rows cs2=>.arr (cs1.map (CV.A0 m)) ag sz rows (cs2.map (CV.A0 m))
 | .tree kd ag sz rows foc=>.tree kd ag sz rows (match foc with
  | some x=>some (x.1,x.2.map (CV.A0 m))
  | none=>none)
 | .pmap n1 sz n rows foc=>.pmap n1 sz n rows (match foc with
  | some x=>some (x.1,m x.2)
  | none=>none)
 | .part c ag sz rows=>.part c ag sz rows
 | .fnl f cs rows=>.fnl f (cs.map (FC.A0 m)) rows
 | .gone=>.gone
 | .rnd r sl=>.rnd r (sl.map fun x=>(x.1,x.2.A0 m))
 | .rndX j=>.rndX j
def Bd {α:Type}(p:α→Bool):List α→Bool
 | []=>true
 | x::r=>match p x with
  | true=>Bd p r
  | false=>false
theorem BE {α:Type}{p:α→Bool}{l:List α}:Bd p l=true↔∀x∈l,p x=true:=by
 induction l with
 | nil=>simp[Bd]
 | cons x l ih=>
  unfold Bd;cases h:p x<;>simp[h,ih]
abbrev AL:=Nat→AV
def AQ:List (Nat×AV)→AL
 | [],_=>.u
 | (k,v)::r,t=>match Nat.beq k t with
  | true=>v
  | false=>AQ r t
theorem Mm {m:Id→Id}:∀{sl:List (Nat×AV)}{t:Nat},AQ (sl.map fun x=>(x.1,x.2.A0 m)) t=(AQ sl t).A0 m
 | [],t=>rfl
 | (k,v)::r,t=>by
  show (match Nat.beq k t with | true=>v.A0 m | false=>AQ (r.map fun x=>(x.1,x.2.A0 m)) t)=(match Nat.beq k t with | true=>v | false=>AQ r t).A0 m
  cases Nat.beq k t with
  | true=>rfl
  | false=>exact Mm (sl:=r)
abbrev AP:=Id→Value
abbrev Heap:=Id→Option AD
def CF:Value→Nat→Value
 | .pointer (some a),o=>.pointer (some ⟨a.block,o,none⟩)
 | v,_=>v
def tM:Value→Nat→Value
 | .pointer (some a),n=>.slice (some ⟨a.block,0,none⟩) n n
 | v,_=>v
def Il:Value→Prop
 | .slice _ _ _=>True
 | _=>False
def Bc (v:Value) (b:Nat):Prop:=blk v=some b∨∃vs:Array Value,v= .tuple vs∧∃k:Nat,vs[k+1]?=some (.int .i64 (b:Int))
def isTu (v:Value):Prop:=∃(vs:Array Value) (x:Value),v= .tuple vs∧vs[0]?=some x
def gval:Value→Value
 | .tuple vs=>vs.getD 0 undef
 | v=>v
def CU (u v:Value):Prop:=v=u∨(isTu u∧isTu v∧gval v=gval u)
theorem CU.refl (u:Value):CU u u:=.inl rfl
theorem CU.trans {a b c:Value}(h:CU a b) (k:CU b c):CU a c:=by
 rcases h with rfl | ⟨h1,h2,h3⟩
 ·exact k
 ·rcases k with rfl | ⟨k1,k2,k3⟩
  ·exact .inr ⟨h1,h2,h3⟩
  ·exact .inr ⟨h1,k2,k3.trans h3⟩
def isLive:Option AD→Bool
 | some (.tree ..)=>true
 | some (.pmap ..)=>true
 | some (.part ..)=>true
 | some (.fnl ..)=>true
 | _=>false
def nB (w:World) (Z:Ak) (g:AP):FC→Value→Prop
 | .p i,v=>(∃b,g i= .pointer (some ⟨b,0,none⟩))∧v=CF (g i) 0
 | .d x,v=>AZ w Z x v∧x.isAgg=false
 | .h,_=>False
def nC (w:World) (Z:Ak) (g:AP) (c:FC) (v:Value):Prop:=∃b u,v= .pointer (some ⟨b,0,none⟩)∧w.cell? ⟨b,0,none⟩=some u∧¬Z b 0∧nB w Z g c u
def Es (w:World) (Z:Ak) (g:AP) (f:Nat) (cs:List FC) (v:Value):Prop:=
 ∃ps:List Value,v= .func (.func f) #[] ps.toArray∧ps.length=cs.length∧∀(j:Nat) c p,cs[j]?=some c→ps[j]?=some p→nC w Z g c p
def FCs (m:Id→Id) (g g':AP):FC→FC→Prop
 | .p i,.p i'=>i=m i'∧∀b,g i= .pointer (some ⟨b,0,none⟩)→g' i'=g i
 | .d x,.d y=>y=x
 | .h,.h=>True
 | _,_=>False
section
variable {w w':World}{Z Z':Ak}{g:AP}
theorem Es.to {g':AP}{f:Nat}{cs cs':List FC}{v:Value}(r:Es w Z g f cs v) (hc:∀b o u,w.cell? ⟨b,o,none⟩=some u→¬Z b o→w'.cell? ⟨b,o,none⟩=some u∧¬Z' b o) (hD:∀{x:D}{v:Value},AZ w Z x v→AZ w' Z' x v)
  (m:Id→Id) (hl:cs'.length=cs.length) (h:∀(j:Nat) c c',cs[j]?=some c→cs'[j]?=some c'→FCs m g g' c c'):Es w' Z' g' f cs' v:=by
 obtain⟨ps,hv,hs,hb⟩:=r;refine⟨ps,hv,hs.trans hl.symm,fun j c' p hc' hp=>?_⟩
 have hj:j<cs.length:=by grind
 obtain⟨b,u,h1,h2,h3,h4⟩:=hb j _ p (List.getElem?_eq_getElem hj) hp;have q:=h j _ c' (List.getElem?_eq_getElem hj) hc';obtain⟨k1,k2⟩:=hc _ _ _ h2 h3;refine⟨b,u,h1,k1,k2,?_⟩;cases he:cs[j]with
 | p i=>
  rw[he]at h4 q;cases c' with
  | p i'=>
   obtain⟨⟨b',hb'⟩,hu⟩:=h4;have e:=q.2 b' hb';exact⟨⟨b',by rw[e];exact hb'⟩,by rw[e];exact hu⟩
  | _=>exact q.elim
 | d x=>
  rw[he]at h4 q;cases c' with
  | d y=>rw[show y=x from q];exact⟨hD h4.1,h4.2⟩
  | _=>exact q.elim
 | h=>
  rw[he]at h4;exact h4.elim
def BB (w:World) (Z:Ak) (g:AP) (h:Heap):CV→Value→Prop
 | .un,v=>v.oneCell'=true
 | .d x,v=>AZ w Z x v∧x.isAgg=false
 | .ptr i o,v=>(∃b,g i= .pointer (some ⟨b,0,none⟩))∧v=CF (g i) o
 | .row ag sz x,v=>x.fits ag sz∧∃b o,v= .pointer (some ⟨b,o,none⟩)∧∃U:Nat→Value,∀(j:Nat) c,x.cells[j]?=some c→w.cell? ⟨b,o+j,none⟩=some (U j)∧¬Z b (o+j)∧AZ w Z c (U j)
 | .rp cs,v=>(∀c∈cs,c.isAgg=false)∧∃b o,v= .pointer (some ⟨b,o,none⟩)∧∃U:Nat→Value,∀(j:Nat) c,cs[j]?=some c→w.cell? ⟨b,o+j,none⟩=some (U j)∧¬Z b (o+j)∧AZ w Z c (U j)
 | .nilp,v=>v= .pointer none
 | .fn f cap,v=>v= .func (.func f) #[] (cap.map (fun i=>CF (g i) 0)).toArray∧∀i∈cap,∃b,g i= .pointer (some ⟨b,0,none⟩)
 | .nilf,v=>v= .nilFunc
 | .nils _ _,v=>v= .slice none 0 0
 | .tl ag sz rows,v=>AZ w Z (.list ag sz rows) v∧∃a,v= .slice a rows.length rows.length
 | .lst i ag sz rows,v=>AZ w Z (.list ag sz rows) v∧Il (g i)∧∀n sz' e,h i=some (.tok n sz' e)→sz'=sz∧rows.length≤n∧(rows.length=n→v=g i)
 | .sl i n,v=>(∃b,g i= .pointer (some ⟨b,0,none⟩))∧v=tM (g i) n
 | .map i,v=>v=g i∧∃r,g i= .map (some r)
 | .nilm,v=>v= .map none
 | .ap i base sz k o,v=>(∃b,g i= .pointer (some ⟨b,0,none⟩))∧v=CF (g i) (base+(k*sz+o))
 | .ow i,v=>v.oneCell'=true∧isTu (g i)∧(isLive (h i)=true→v=gval (g i))
 | .op i sz k o,v=>v.oneCell'=true∧isTu (g i)∧(isLive (h i)=true→∃b,blk (gval (g i))=some b∧v= .pointer (some ⟨b,k*sz+o,none⟩))
 | .yl i,v=>∃l,g i= .map (some l)∧v= .func (.yield l) #[] #[]
 | .bm f i,v=>(∃b,g i= .pointer (some ⟨b,0,none⟩))∧v= .func (.func f) #[CF (g i) 0] #[]
 | .fz f cs,v=>Es w Z g f cs v
 | .fb i,v=>nC w Z g (.p i) v
 | .kv u,v=>v=u∧u.oneCell'=true
def Ah (w:World) (Z:Ak) (g:AP) (h:Heap):V1→Value→Prop
 | .d x,v=>AZ w Z x v
 | .c x,v=>BB w Z g h x v
 | .agg cs,v=>∃vs:Array Value,v= .agg vs∧vs.size=cs.length∧∀(j:Nat) c u,cs[j]?=some c→vs[j]?=some u→BB w Z g h c u
def An (w:World) (Z:Ak) (g:AP) (h:Heap):AV→Value→Prop
 | .u,_=>True
 | .v x,v=>Ah w Z g h x v
 | .t xs,v=>∃vs:Array Value,v= .tuple vs∧vs.size=xs.length∧∀(j:Nat) c u,xs[j]?=some c→vs[j]?=some u→Ah w Z g h c u
 | .df _ _ _,_=>True
def IU (w:World) (Z:Ak) (c:Nat) (ag:Bool) (sz:Nat) (rows:List D) (v:Value) (S:Nat→Prop):Prop:=
 0<sz∧(∀r∈rows,r.fits ag sz)∧∃(a:Option Addr) (cap b o:Nat),v= .slice a (c+rows.length) cap∧c+rows.length≤cap∧cap≤maxLen∧(0<c+rows.length→a=some ⟨b,o,none⟩)∧
  ∃(U:Nat→Nat→Value) (T:Nat→Nat→Nat→Prop),
   (∀(i:Nat) r (j:Nat) d,rows[i]?=some r→r.cells[j]?=some d→w.cell? ⟨b,o+((c+i)*sz+j),none⟩=some (U i j)∧¬Z b (o+((c+i)*sz+j))∧B6 w d (U i j) (T i j))∧
   (∀i j b,T i j b→∃r d,rows[i]?=some r∧r.cells[j]?=some d)∧(∀i j i' j' b,T i j b→T i' j' b→i=i'∧j=j')∧∀b,S b↔∃i j,T i j b
def MP (w:World) (Z:Ak) (c1:List D) (sz:Nat) (L:List D) (b:Nat):Prop:=(∀r∈L,r.fits true sz)∧∃c e,w.heap[b]?=some (.cells c e (0,0))∧c.size=c1.length+L.length*sz∧
 (∀(j:Nat) x u,c1[j]?=some x→c[j]?=some u→AZ w Z x u∧x.isAgg=false)∧∀(i:Nat) r (j:Nat) x,L[i]?=some r→r.cells[j]?=some x→∃u,c[c1.length+(i*sz+j)]?=some u∧AZ w Z x u
variable {b:Nat}
theorem MP.mono {c1:List D}{sz:Nat}{L:List D}(h:MP w Z c1 sz L b) (hb:w'.heap[b]?=w.heap[b]?) (hD:∀{x:D}{v:Value},AZ w Z x v→AZ w' Z' x v):MP w' Z' c1 sz L b:=by
 obtain⟨h0,c,e,h1,h2,h3,h4⟩:=h;exact⟨h0,c,e,by rw[hb];exact h1,h2,fun j x u hx hu=>⟨hD (h3 j x u hx hu).1,(h3 j x u hx hu).2⟩,fun i r j x hr hx=>(h4 i r j x hr hx).imp fun u q=>⟨q.1,hD q.2⟩⟩
def AAa (m:Array MapEntry) (clock:Nat):Prop:=(∀e∈m,e.born<clock)∧(m.toList.map (·.born)).Nodup
def BL (w:World) (Z:Ak) (g:AP) (h:Heap):AD→Value→Prop
 | .cells cs,gv=>∃b c e,gv= .pointer (some ⟨b,0,none⟩)∧w.heap[b]?=some (.cells c e (0,0))∧c.size=cs.length∧
   ∀(j:Nat) x u,cs[j]?=some x→c[j]?=some u→BB w Z g h x u
 | .tok n sz e,gv=>0<sz∧∃xs,w.ownsRow 0 e sz gv n xs
 | .map _ _ es,gv=>∃r m clock,gv= .map (some r)∧w.heap[r]?=some (.map m clock)∧AAa m clock∧zZ m.toList es
 | .arr cs1 ag sz rows cs2,gv=>(∀r∈rows,r.fits ag sz)∧∃b c e,gv= .pointer (some ⟨b,0,none⟩)∧w.heap[b]?=some (.cells c e (0,0))∧c.size=cs1.length+rows.length*sz+cs2.length∧
   (∀(j:Nat) x u,cs1[j]?=some x→c[j]?=some u→BB w Z g h x u)∧
   (∀(i:Nat) r (j:Nat) x,rows[i]?=some r→r.cells[j]?=some x→∃u,c[cs1.length+(i*sz+j)]?=some u∧AZ w Z x u)∧
   (∀(j:Nat) x u,cs2[j]?=some x→c[cs1.length+rows.length*sz+j]?=some u→BB w Z g h x u)
 | .tree kd ag sz rows foc,gv=>isTu gv∧0<sz∧(∀r∈rows,r.fits ag sz)∧∃xs,Holds w kd sz (gval gv) rows.length xs∧
   (∀k cs,foc=some (k,cs)→k<rows.length∧cs.length=sz∧∀(j:Nat) c u,cs[j]?=some c→xs[k*sz+j]?=some u→BB w Z g h c u)∧
   ∃(U:Nat→Nat→Value) (T:Nat→Nat→Nat→Prop),
    (∀(i:Nat) r (j:Nat) c,(∀k cs,foc=some (k,cs)→i≠k)→rows[i]?=some r→r.cells[j]?=some c→xs[i*sz+j]?=some (U i j)∧Cm w Z kd c (U i j) (T i j))∧
    (∀i j b,T i j b→(∀k cs,foc=some (k,cs)→i≠k)∧∃r c,rows[i]?=some r∧r.cells[j]?=some c)∧(∀i j b,T i j b→blk (gval gv)≠some b)∧
    (∀i j i' j' b,T i j b→T i' j' b→i=i'∧j=j')∧∀b,Bc gv b↔blk (gval gv)=some b∨∃i j,T i j b
 | .pmap n1 sz n rows foc,gv=>isTu gv∧∃(r:Nat) (m:Array MapEntry) (clock:Nat) (B:Nat→Nat),gval gv= .map (some r)∧w.heap[r]?=some (.map m clock)∧m.size=rows.length∧(∀e∈m,e.born<clock)∧
   (∀(k:Nat) x e,rows[k]?=some x→m[k]?=some e→e.key= .int .i64 x.1∧e.val= .pointer (some ⟨B k,0,none⟩))∧
   (∀(k:Nat) j,foc=some (k,j)→k<rows.length∧g j= .pointer (some ⟨B k,0,none⟩))∧
   (∀(k:Nat) x,rows[k]?=some x→(∀j,foc≠some (k,j))→MP w Z x.2.1 sz x.2.2 (B k))∧
   (∀i k,i<rows.length→k<rows.length→B i=B k→i=k)∧(∀k,k<rows.length→B k≠r)∧
   ∀b,Bc gv b↔b=r∨∃k,k<rows.length∧(∀j,foc≠some (k,j))∧b=B k
 | .part c ag sz rows,gv=>isTu gv∧IU w Z c ag sz rows (gval gv) (Bc gv)
 | .fnl f cs rows,gv=>isTu gv∧(∀b,Bc gv b↔blk (gval gv)=some b)∧∃xs,Holds w .row 1 (gval gv) rows.length xs∧∀(k:Nat) r u,rows[k]?=some r→xs[k]?=some u→Es w Z g f (fill cs r.cells) u
 | .gone,_=>True
 | .rnd r sl,gv=>∃l L,gv= .map (some l)∧w.heap[l]?=some (.loop L)∧L.state= .ready∧L.pending=none∧L.params=(r ()).params∧L.assign=(r ()).assign∧L.body=(r ()).body∧L.tmps.size=(r ()).nt∧
   ∀t,An w Z g h (AQ sl t) (L.tmps.getD t undef)
 | .rndX j,gv=>∃l L,gv= .map (some l)∧w.heap[l]?=some (.loop L)∧L.state= .done∧L.pending=some (match j with | none=>.ret | some id=>.exit id)
def BS (gv:Value) (ob:AD):Ak:=fun b o=>match ob with | .tok n sz _=>Bc gv b∧n*sz≤o | .gone=>False | _=>Bc gv b
def FF (gv:Value) (ob:AD) (b:Nat):Prop:=match ob with | .gone=>False | _=>Bc gv b
variable {gv:Value}{ob:AD}
theorem FF.blk (h:FF gv ob b):Bc gv b:=by cases ob<;>first | exact h | exact h.elim
theorem BS.HA {o:Nat}(h:BS gv ob b o):FF gv ob b:=by cases ob<;>first | exact h | exact h.1
theorem FF.zone (h:FF gv ob b):∃o,BS gv ob b o:=by
 cases ob with
 | tok n sz e=>exact⟨n*sz,h,Nat.le_refl _⟩
 | gone=>exact h.elim
 | _=>exact⟨0,h⟩
def zone (g:AP) (h:Heap):Ak:=fun b o=>∃i ob,h i=some ob∧BS (g i) ob b o
def Av (Z X:Ak):Ak:=fun b o=>Z b o∨X b o
structure DA (w:World) (X:Ak) (g:AP) (h:Heap):Prop where
 objs:∀i o,h i=some o→BL w (Av (zone g h) X) g h o (g i)
 sep:∀i j oi oj b,h i=some oi→h j=some oj→FF (g i) oi b→FF (g j) oj b→i=j
 apart:∀i oi b o,h i=some oi→FF (g i) oi b→¬X b o
structure Bs (Z:Ak) (w w':World):Prop where
 os:w'.os=w.os
 tape:w'.tape=w.tape
 output:w'.output=w.output
 size:w.heap.size≤w'.heap.size
 block:∀b,b<w.heap.size→(∀o,¬Z b o)→w'.heap[b]?=w.heap[b]?
 cell:∀b o u,w.cell? ⟨b,o,none⟩=some u→¬Z b o→w'.cell? ⟨b,o,none⟩=some u
theorem Bs.refl (Z:Ak) (w:World):Bs Z w w:=⟨rfl,rfl,rfl,Nat.le_refl _,fun _ _ _=>rfl,fun _ _ _ h _=>h⟩
theorem Bs.weaken {a b:World}(h:Bs Z a b) (hz:∀b o,Z b o→Z' b o):Bs Z' a b:=
 ⟨h.os,h.tape,h.output,h.size,fun i hi hn=>h.block i hi (fun o hz'=>hn o (hz _ _ hz')),fun i o u hu hn=>h.cell i o u hu (fun hz'=>hn (hz _ _ hz'))⟩
structure Inv where
 blocks:Nat→Prop
 rel:World→Prop
 same:∀{w w':World},(∀b,blocks b→w'.heap[b]?=w.heap[b]?)→rel w→rel w'
def Inv.at (I:Inv) (w:World) (Z:Ak):Prop:=I.rel w∧∀b,I.blocks b→b<w.heap.size∧∀o,¬Z b o
theorem Inv.at.mono {I:Inv}(h:I.at w Z) (hz:∀b o,Z' b o→Z b o):I.at w Z':=⟨h.1,fun b hb=>⟨(h.2 b hb).1,fun o ho=>(h.2 b hb).2 o (hz b o ho)⟩⟩
def Inv.none:Inv:=⟨fun _=>False,fun _=>True,fun _ _=>trivial⟩
structure Aw where
 P:Program
 I:Inv
 /-- May closures be deferred? -/
 cl:Bool
 /-- What holds where code panics: of the value, the state. -/
 pn:Value→List (Nat×AV)→List (Id×AD)→Nat→Prop
 split:Bool→(Bool→Prop)→Prop
 split_iff:∀c A,split c A↔A c
 lock:(Unit→Prop)→Prop
 lock_iff:∀p,lock p↔p ()
 eqI:Int→Int→Bool
 eqI_eq:∀a b,eqI a b=(a==b)
 ltI:Int→Int→Bool
 ltI_eq:∀a b,ltI a b=decide (a<b)
 leI:Int→Int→Bool
 leI_eq:∀a b,leI a b=decide (a≤b)
 eqS:ByteArray→ByteArray→Bool
 eqS_eq:∀a b,eqS a b=(a.toList==b.toList)
 ltS:ByteArray→ByteArray→Bool
 ltS_eq:∀a b,ltS a b=Op.bytesLess a.toList b.toList
 lenI:List D→Int
 lenI_eq:∀l,lenI l=(l.length:Int)
 szI:ByteArray→Int
 szI_eq:∀s,szI s=(s.size:Int)
def BM:Option Nat→Fence
 | none=>Fence.wide
 | some l=>Fence.wide.inRound l
def DB (r:Nat):Deferred:={target:=.collected r,args:=#[]}
def DT:Nat:=1000
def DfM (w:World) (Z:Ak) (g:AP) (f:Nat) (cs:List FC) (rows:List D) (ds:List Deferred):Prop:=
 ds.length=rows.length∧∀(k:Nat) r d,rows[k]?=some r→ds[k]?=some d→∃ps:Array Value,d=⟨.fn (.func f) ps,#[]⟩∧Es w Z g f (fill cs r.cells) (.func (.func f) #[] ps)
def DY (w:World) (Z:Ak) (g:AP) (cl:Bool) (v:AV) (ds:List Deferred) (D:List Nat):Prop:=
 match cl with
 | false=>ds=D.map DB
 | true=>∀f cs rows,v= .df f cs rows→DfM w Z g f cs rows ds
theorem DY.un {g':AP}{cl:Bool}{v v':AV}{ds:List Deferred}{D:List Nat}(h:DY w Z g cl v ds D) (hv:∀f cs rows,v'≠ .df f cs rows):DY w' Z' g' cl v' ds D:=by
 cases cl with
 | false=>exact h
 | true=>exact fun f cs rows e=>absurd e (hv f cs rows)
structure Cx where
 M:Aw
 nt:Nat
 w0:World
 Z0:Ak
 X:Ak
 g0:AP
 hinv:M.I.at w0 (Av Z0 X)
 ro:Option Nat
 D:List Nat
 hro:∀l,ro=some l→(∃L,w0.heap[l]?=some (.loop L))∧∀o,¬Z0 l o
 hD:∀r∈D,w0.heap[r]?=some (.deferred (some []))∧∀o,¬Z0 r o
 hDn:D.Nodup
 hcl:M.cl=true→nt≤DT∧ro=none
abbrev Cx.P (C:Cx):Program:=C.M.P
structure AY (C:Cx) (F:Nat→Prop) (s:AL) (h:Heap) (g:AP) (a:Act) (w:World):Prop where
 size:a.tmps.size=C.nt
 defers:DY w (Av (zone g h) C.X) g C.M.cl (s DT) a.defers C.D
 slots:∀t,An w (Av (zone g h) C.X) g h (s t) (a.tmps.getD t undef)
 heap:DA w C.X g h
 frame:Bs C.Z0 C.w0 w
 ext:∀j,CU (C.g0 (.ext j)) (g (.ext j))
 within:∀i ob b o,h i=some ob→BS (g i) ob b o→C.Z0 b o∨C.w0.heap.size≤b
 xs:∀b o,C.X b o→b<C.w0.heap.size
 free:∀n,F n→g (.loc n)=undef∧h (.loc n)=none
variable {F:Nat→Prop}
theorem AY.marks {C:Cx}{s:AL}{h:Heap}{a:Act}(R:AY C F s h g a w) (hc:C.M.cl=false):a.defers=C.D.map DB:=by
 have:=R.defers;rw[hc]at this;exact this
theorem AY.inv {C:Cx}{s:AL}{h:Heap}{a:Act}(R:AY C F s h g a w):C.M.I.at w (Av (zone g h) C.X):=by
 obtain⟨h1,h2⟩:=C.hinv;refine⟨C.M.I.same (fun b hb=>?_) h1,fun b hb=>⟨Nat.lt_of_lt_of_le (h2 b hb).1 R.frame.size,?_⟩⟩
 ·exact R.frame.block b (h2 b hb).1 (fun o hz=>(h2 b hb).2 o (.inl hz))
 ·rintro o (⟨i,ob,hi,hz⟩ | hx)
  ·rcases R.within i ob b o hi hz with hz | hz
   ·exact (h2 b hb).2 o (.inl hz)
   grind
  ·exact (h2 b hb).2 o (.inr hx)
def Rel (C:Cx) (F:Nat→Prop) (s:AL) (h:Heap) (a:Act) (w:World):Prop:=∃g,AY C F s h g a w
end
end Go.AM
namespace Go.AM
open Go Go.RowKit
structure HC (w:World) (Z:Ak) (g:AP) (h:Heap) (w':World) (Z':Ak) (g':AP) (h':Heap):Prop where
 cell:∀b o u,w.cell? ⟨b,o,none⟩=some u→¬Z b o→w'.cell? ⟨b,o,none⟩=some u∧¬Z' b o
 ptr:∀i b,g i= .pointer (some ⟨b,0,none⟩)→g' i=g i
 map:∀i r,g i= .map (some r)→g' i=g i
 sl:∀i,Il (g i)→Il (g' i)
 tok:∀i n sz e,Il (g i)→h' i=some (.tok n sz e)→∃n0,n0≤n∧h i=some (.tok n0 sz e)∧(n0=n→g' i=g i)
 ow:∀i,isTu (g i)→isTu (g' i)
 own:∀i,isTu (g i)→isLive (h' i)=true→isLive (h i)=true∧gval (g' i)=gval (g i)
section
variable {w w':World}{Z Z':Ak}{g g':AP}{h h':Heap}
section
variable {x:D}{v:Value}
theorem HC.GP (E:HC w Z g h w' Z' g' h') (r:AZ w Z x v):AZ w' Z' x v:=r.mono E.cell
theorem HC.qK (E:HC w Z g h w' Z' g' h') {i:Id}(r:∃l,g i= .map (some l)∧v= .func (.yield l) #[] #[]):∃l,g' i= .map (some l)∧v= .func (.yield l) #[] #[]:=by
 obtain⟨l,hl,hv⟩:=r;exact⟨l,by rw[E.map i l hl];exact hl,hv⟩
theorem FCs.refl (hp:∀i b,g i= .pointer (some ⟨b,0,none⟩)→g' i=g i) (c:FC):FCs (fun i=>i) g g' c c:=by
 cases c with
 | p i=>exact⟨rfl,fun b hb=>hp i b hb⟩
 | d x=>exact rfl
 | h=>trivial
theorem HC.ZU (E:HC w Z g h w' Z' g' h') {f:Nat}{cs:List FC}(r:Es w Z g f cs v):Es w' Z' g' f cs v:=
 r.to E.cell E.GP (fun i=>i) rfl fun j c c' h1 h2=>by rw[h1]at h2;cases h2;exact FCs.refl E.ptr c
theorem HC.AMw (E:HC w Z g h w' Z' g' h') {i:Id}(r:nC w Z g (.p i) v):nC w' Z' g' (.p i) v:=by
 obtain⟨b,u,h1,h2,h3,⟨b',hb'⟩,hu⟩:=r;obtain⟨k1,k2⟩:=E.cell _ _ _ h2 h3;have e:=E.ptr i b' hb';exact⟨b,u,h1,k1,k2,⟨b',by rw[e];exact hb'⟩,by rw[e];exact hu⟩
theorem HC.tG (E:HC w Z g h w' Z' g' h') {cl:Bool}{v:AV}{ds:List Deferred}{D:List Nat}(r:DY w Z g cl v ds D):DY w' Z' g' cl v ds D:=by
 cases cl with
 | false=>exact r
 | true=>
  intro f cs rows e;obtain⟨h1,h2⟩:=r f cs rows e;exact⟨h1,fun k r d hr hd=>(h2 k r d hr hd).imp fun ps q=>⟨q.1,E.ZU q.2⟩⟩
theorem HC.La (E:HC w Z g h w' Z' g' h') {c:CV}(r:BB w Z g h c v):BB w' Z' g' h' c v:=by
 cases c with
 | un=>exact r
 | d x=>exact⟨E.GP r.1,r.2⟩
 | ptr i o=>
  obtain⟨⟨b,hb⟩,hv⟩:=r;have e:=E.ptr i b hb;exact⟨⟨b,by rw[e];exact hb⟩,by rw[e];exact hv⟩
 | row ag sz x=>
  obtain⟨hf,b,o,hv,U,hU⟩:=r;exact⟨hf,b,o,hv,U,fun j c hc=>⟨(E.cell _ _ _ (hU j c hc).1 (hU j c hc).2.1).1,(E.cell _ _ _ (hU j c hc).1 (hU j c hc).2.1).2,E.GP (hU j c hc).2.2⟩⟩
 | rp cs=>
  obtain⟨hf,b,o,hv,U,hU⟩:=r;exact⟨hf,b,o,hv,U,fun j c hc=>⟨(E.cell _ _ _ (hU j c hc).1 (hU j c hc).2.1).1,(E.cell _ _ _ (hU j c hc).1 (hU j c hc).2.1).2,E.GP (hU j c hc).2.2⟩⟩
 | nilp=>exact r
 | fn f cap=>
  obtain⟨hv,hc⟩:=r;refine⟨?_,fun i hi=>?_⟩
  ·rw[hv];congr 2;refine List.map_congr_left fun i hi=>?_
   obtain⟨b,hb⟩:=hc i hi;rw[E.ptr i b hb]
  ·obtain⟨b,hb⟩:=hc i hi;exact⟨b,by rw[E.ptr i b hb];exact hb⟩
 | nilf=>exact r
 | nils ag sz=>exact r
 | tl ag sz rows=>exact⟨E.GP r.1,r.2⟩
 | lst i ag sz rows=>
  obtain⟨hd,hs,ht⟩:=r;refine⟨E.GP hd,E.sl i hs,fun n sz' e hn=>?_⟩
  obtain⟨n0,hle,h0,heq⟩:=E.tok i n sz' e hs hn;grind
 | sl i n=>
  obtain⟨⟨b,hb⟩,hv⟩:=r;have e:=E.ptr i b hb;exact⟨⟨b,by rw[e];exact hb⟩,by rw[e];exact hv⟩
 | map i=>
  obtain⟨hv,m,hm⟩:=r;have e:=E.map i m hm;exact⟨by rw[e];exact hv,m,by rw[e];exact hm⟩
 | nilm=>exact r
 | ap i base sz k o=>
  obtain⟨⟨b,hb⟩,hv⟩:=r;have e:=E.ptr i b hb;exact⟨⟨b,by rw[e];exact hb⟩,by rw[e];exact hv⟩
 | ow i=>
  obtain⟨h1,h2,h3⟩:=r;refine⟨h1,E.ow i h2,fun hm=>?_⟩
  obtain⟨h0,heq⟩:=E.own i h2 hm;rw[heq];exact h3 h0
 | op i sz k o=>
  obtain⟨h1,h2,h3⟩:=r;refine⟨h1,E.ow i h2,fun hm=>?_⟩
  obtain⟨h0,heq⟩:=E.own i h2 hm;rw[heq];exact h3 h0
 | yl i=>exact E.qK r
 | bm f i=>
  obtain⟨⟨b,hb⟩,hv⟩:=r;have e:=E.ptr i b hb;exact⟨⟨b,by rw[e];exact hb⟩,by rw[e];exact hv⟩
 | fz f cs=>exact E.ZU r
 | fb i=>exact E.AMw r
 | kv u=>exact r
theorem HC.tH (E:HC w Z g h w' Z' g' h') {c:V1}(r:Ah w Z g h c v):Ah w' Z' g' h' c v:=by
 cases c with
 | d x=>exact E.GP r
 | c x=>exact E.La r
 | agg cs=>
  obtain⟨vs,hv,hs,hr⟩:=r;exact⟨vs,hv,hs,fun j c u hc hu=>E.La (hr j c u hc hu)⟩
theorem HC.U0 (E:HC w Z g h w' Z' g' h') {c:AV}(r:An w Z g h c v):An w' Z' g' h' c v:=by
 cases c with
 | u=>trivial
 | v x=>exact E.tH r
 | t cs=>
  obtain⟨vs,hv,hs,hr⟩:=r;exact⟨vs,hv,hs,fun j c u hc hu=>E.tH (hr j c u hc hu)⟩
 | df f cs rows=>trivial
variable {e:TypeId}{sz n:Nat}
theorem QM {xs:List Value}(h:w.ownsRow 0 e sz v n xs)
  (hb:∀b,Bc v b→w'.heap[b]?=w.heap[b]?):w'.ownsRow 0 e sz v n xs:=by
 obtain⟨h1,h2⟩:=h;refine⟨h1,?_⟩;rcases h2 with h2 | ⟨q,cap,cur,hv,hg,hh,r⟩
 ·exact .inl h2
 ·exact .inr ⟨q,cap,cur,hv,hg,by rw[hb q (by rw[hv];exact .inl rfl)];exact hh,r⟩
variable {k:Kd}
theorem Holds.same {xs:List Value}(h:Holds w k sz v n xs) (hb:∀b,blk v=some b→w'.heap[b]?=w.heap[b]?):Holds w' k sz v n xs:=by
 cases k with
 | row=>
  obtain⟨e,h1,h2⟩:=h;refine⟨e,h1,?_⟩;rcases h2 with h2 | ⟨q,cap,cur,hv,hg,hh,r⟩
  ·exact .inl h2
  ·exact .inr ⟨q,cap,cur,hv,hg,by rw[hb q (by rw[hv];rfl)];exact hh,r⟩
 | flat=>
  obtain⟨e,h1,h2⟩:=h;refine⟨e,h1,?_⟩;rcases h2 with h2 | ⟨q,cap,cur,hv,hg,hh,r⟩
  ·exact .inl h2
  ·exact .inr ⟨q,cap,cur,hv,hg,by rw[hb q (by rw[hv];rfl)];exact hh,r⟩
 | box=>
  obtain⟨h1,b,c,e,hv,hh,r⟩:=h;exact⟨h1,b,c,e,hv,by rw[hb b (by rw[hv];rfl)];exact hh,r⟩
 | map=>
  obtain⟨r,m,cl,hv,hh,q⟩:=h;exact⟨r,m,cl,hv,by rw[hb r (by rw[hv];rfl)];exact hh,q⟩
 | fmap b'=>
  obtain⟨r,m,cl,hv,hh,q⟩:=h;exact⟨r,m,cl,hv,by rw[hb r (by rw[hv];rfl)];exact hh,q⟩
variable {b:Nat}
theorem Holds.lt {xs:List Value}(h:Holds w k sz v n xs) (hb:blk v=some b):b<w.heap.size:=by
 cases k with
 | row=>
  obtain⟨e,h1,h2⟩:=h;rcases h2 with⟨hv,_⟩ | ⟨q,cap,cur,hv,hg,hh,_⟩
  ·rw[hv]at hb;simp[blk]at hb
  ·rw[hv]at hb;simp[blk]at hb;grind
 | flat=>
  obtain⟨e,h1,h2⟩:=h;rcases h2 with⟨hv,_⟩ | ⟨q,cap,cur,hv,hg,hh,_⟩
  ·rw[hv]at hb;simp[blk]at hb
  ·rw[hv]at hb;simp[blk]at hb;grind
 | box=>
  obtain⟨h1,q,c,e,hv,hh,r⟩:=h;rw[hv]at hb;simp[blk]at hb;grind
 | map=>
  obtain⟨r,m,cl,hv,hh,q⟩:=h;rw[hv]at hb;simp[blk]at hb;grind
 | fmap b'=>
  obtain⟨r,m,cl,hv,hh,q⟩:=h;rw[hv]at hb;simp[blk]at hb;grind
theorem Holds.BR {xs:List Value}(h:Holds w k sz v n xs):v.oneCell'=true:=by
 cases k with
 | row=>
  obtain⟨e,h1,h2⟩:=h;rcases h2 with⟨hv,_⟩ | ⟨q,cap,cur,hv,_⟩<;>rw[hv]<;>rfl
 | flat=>
  obtain⟨e,h1,h2⟩:=h;rcases h2 with⟨hv,_⟩ | ⟨q,cap,cur,hv,_⟩<;>rw[hv]<;>rfl
 | box=>obtain⟨h1,q,c,e,hv,_⟩:=h;rw[hv];rfl
 | map=>obtain⟨r,m,cl,hv,_⟩:=h;rw[hv];rfl
 | fmap b'=>obtain⟨r,m,cl,hv,_⟩:=h;rw[hv];rfl
theorem PA {m:List MapEntry}(h:∀e∈m,e.val.cells.size+1=sz):(m.flatMap fun e=>e.key::e.val.cells.toList).length=m.length*sz:=by
 induction m with
 | nil=>simp
 | cons e m ih=>
  grind
theorem Holds.len {xs:List Value}(h:Holds w k sz v n xs):xs.length=n*sz:=by
 cases k with
 | row=>obtain⟨e,h1,h2⟩:=h;exact h1
 | flat=>obtain⟨e,h1,h2⟩:=h;exact h1
 | box=>obtain⟨rfl,q,c,e,hv,hh,rfl,hs⟩:=h;simp[hs]
 | map=>
  obtain⟨r,m,cl,hv,hh,hn,_,hs,rfl⟩:=h;rw[←hn];exact PA (fun e he=>hs e (Array.mem_toList_iff.1 he))
 | fmap b'=>
  obtain⟨r,m,cl,hv,hh,hn,_,hs,_,rfl⟩:=h;rw[←hn];exact PA (fun e he=>hs e (Array.mem_toList_iff.1 he))
variable {S:Nat→Prop}
theorem B6.same (r:B6 w x v S) (hb:∀b,S b→w'.heap[b]?=w.heap[b]?):B6 w' x v S:=by
 induction r with
 | int k n=>exact .int k n
 | bool b=>exact .bool b
 | str s=>exact .str s
 | nil=>exact .nil
 | con k ag sz rows x v xs U T S hcon hsz hfit hx hU hr hT hd1 hd2 hS ih=>
  exact .con k ag sz rows x v xs U T S hcon hsz hfit (hx.same fun b h=>hb b ((hS b).2 (.inl h))) hU (fun i r j c h1 h2=>ih i r j c h1 h2 (fun b hT'=>hb b ((hS b).2 (.inr ⟨i,j,hT'⟩)))) hT hd1 hd2 hS
theorem B6.lt (r:B6 w x v S):∀b,S b→b<w.heap.size:=by
 induction r with
 | int k n=>intro b h;exact h.elim
 | bool b=>intro b h;exact h.elim
 | str s=>intro b h;exact h.elim
 | nil=>intro b h;exact h.elim
 | con k ag sz rows x v xs U T S hcon hsz hfit hx hU hr hT hd1 hd2 hS ih=>
  intro b hb;rcases (hS b).1 hb with h1 | ⟨i,j,h1⟩
  ·exact hx.lt h1
  grind
theorem Cm.lt {Z:Ak}(r:Cm w Z k x v S):∀b,S b→b<w.heap.size:=by
 cases hk:k.IT with
 | true=>exact fun b h=>(((Cm.fz hk).1 r).2 b h).elim
 | false=>exact B6.lt ((Cm.own hk).1 r)
theorem IU.mono {c:Nat}{ag:Bool}{rows:List D}(r:IU w Z c ag sz rows v S) (hw:∀b o u,w.cell? ⟨b,o,none⟩=some u→¬Z b o→w'.cell? ⟨b,o,none⟩=some u∧¬Z' b o)
  (hb:∀b,S b→w'.heap[b]?=w.heap[b]?):IU w' Z' c ag sz rows v S:=by
 obtain⟨h0,hf,a,cap,b,o,hv,h1,h2,h3,U,T,h4,h5,h6,h7⟩:=r;refine⟨h0,hf,a,cap,b,o,hv,h1,h2,h3,U,T,fun i r j d hr hd=>?_,h5,h6,h7⟩
 obtain⟨g1,g2,g3⟩:=h4 i r j d hr hd;obtain⟨k1,k2⟩:=hw _ _ _ g1 g2;exact⟨k1,k2,g3.same fun b hT=>hb b ((h7 b).2 ⟨i,j,hT⟩)⟩
theorem IU.lt {c:Nat}{ag:Bool}{rows:List D}(r:IU w Z c ag sz rows v S):∀b,S b→b<w.heap.size:=by
 obtain⟨h0,hf,a,cap,b,o,hv,h1,h2,h3,U,T,h4,h5,h6,h7⟩:=r;intro b' hb;obtain⟨i,j,hT⟩:=(h7 b').1 hb;obtain⟨r,d,hr,hd⟩:=h5 i j b' hT;exact (h4 i r j d hr hd).2.2.lt b' hT
theorem BL.evo (E:HC w Z g h w' Z' g' h') {o:AD}{gv:Value}(r:BL w Z g h o gv)
  (hb:∀b,FF gv o b→w'.heap[b]?=w.heap[b]?):BL w' Z' g' h' o gv:=by
 cases o with
 | cells cs=>
  obtain⟨b,c,e,hv,hh,hs,hr⟩:=r;exact⟨b,c,e,hv,by rw[hb b (by rw[hv];exact .inl rfl)];exact hh,hs,fun j x u hx hu=>E.La (hr j x u hx hu)⟩
 | tok n sz e=>
  obtain⟨h0,xs,hx⟩:=r;exact⟨h0,xs,QM hx hb⟩
 | map kt et es=>
  obtain⟨q,m,cl,hv,hh,hbn,hr⟩:=r;exact⟨q,m,cl,hv,by rw[hb q (by rw[hv];exact .inl rfl)];exact hh,hbn,hr⟩
 | arr cs1 ag sz rows cs2=>
  obtain⟨hf,b,c,e,hv,hh,hs,h1,h2,h3⟩:=r
  exact⟨hf,b,c,e,hv,by rw[hb b (by rw[hv];exact .inl rfl)];exact hh,hs,fun j x u hx hu=>E.La (h1 j x u hx hu),
   fun i r j x hr hx=>(h2 i r j x hr hx).imp fun u q=>⟨q.1,E.GP q.2⟩,fun j x u hx hu=>E.La (h3 j x u hx hu)⟩
 | tree kd ag sz rows foc=>
  obtain⟨ht,h0,hf,xs,hx,hc,U,T,h1,h2,h3,h4,h5⟩:=r
  exact⟨ht,h0,hf,xs,hx.same fun b h=>hb b ((h5 b).2 (.inl h)),fun k cs hk=>⟨(hc k cs hk).1,(hc k cs hk).2.1,fun j c u hj hu=>E.La ((hc k cs hk).2.2 j c u hj hu)⟩,U,T,
   fun i r j c hi hr hj=>⟨(h1 i r j c hi hr hj).1,(h1 i r j c hi hr hj).2.map E.GP fun q=>B6.same q fun b hT=>hb b ((h5 b).2 (.inr ⟨i,j,hT⟩))⟩,h2,h3,h4,h5⟩
 | pmap n1 sz n rows foc=>
  obtain⟨ht,q,m,cl,B,hv,hh,hs,hbn,h1,h2,h3,h4,h5,h6⟩:=r;refine⟨ht,q,m,cl,B,hv,by rw[hb q ((h6 q).2 (.inl rfl))];exact hh,hs,hbn,h1,fun k j hk=>⟨(h2 k j hk).1,by rw[E.ptr j (B k) (h2 k j hk).2];exact (h2 k j hk).2⟩,fun k x hx hk=>?_,h4,h5,h6⟩
  exact (h3 k x hx hk).mono (hb (B k) ((h6 _).2 (.inr ⟨k,(List.getElem?_eq_some_iff.1 hx).1,hk,rfl⟩))) E.GP
 | part c ag sz rows=>exact⟨r.1,r.2.mono E.cell hb⟩
 | fnl f cs rows=>
  obtain⟨ht,h1,xs,hx,hr⟩:=r;exact⟨ht,h1,xs,hx.same fun b h=>hb b ((h1 b).2 h),fun k r u h2 h3=>E.ZU (hr k r u h2 h3)⟩
 | gone=>trivial
 | rnd rf sl=>
  obtain⟨l,L,hv,hh,h1,h2,h3,h4,h5,h6,h7⟩:=r;exact⟨l,L,hv,by rw[hb l (by rw[hv];exact .inl rfl)];exact hh,h1,h2,h3,h4,h5,h6,fun t=>E.U0 (h7 t)⟩
 | rndX j=>
  obtain⟨l,L,hv,hh,h1,h2⟩:=r;exact⟨l,L,hv,by rw[hb l (by rw[hv];exact .inl rfl)];exact hh,h1,h2⟩
variable {q:Nat}
theorem Bc.sl {o l cap:Nat}(h:Bc (.slice (some ⟨q,o,none⟩) l cap) b):q=b:=by
 rcases h with h | ⟨vs,h,_⟩
 ·simpa [blk] using h
 ·cases h
theorem Bc.nil (h:Bc (.slice none 0 0) b):False:=by
 rcases h with h | ⟨vs,h,_⟩
 ·simp[blk]at h
 ·cases h
theorem Bc.ptr {o:Nat}(h:Bc (.pointer (some ⟨q,o,none⟩)) b):q=b:=by
 rcases h with h | ⟨vs,h,_⟩
 ·simpa [blk] using h
 ·cases h
theorem Bc.map (h:Bc (.map (some q)) b):q=b:=by
 rcases h with h | ⟨vs,h,_⟩
 ·simpa [blk] using h
 ·cases h
theorem Bc.undef (h:Bc undef b):False:=by
 rcases h with h | ⟨vs,h,_⟩
 ·trivial
 ·simp only[Go.undef,Value.tuple.injEq]at h;simp_all
theorem Bc.YA (hs:Il v) (h:Bc v b):blk v=some b:=by
 rcases h with h | ⟨vs,h,_⟩
 ·exact h
 ·rw[h]at hs;exact hs.elim
theorem Mo {lo:Nat}{xs:List Value}(h:w.ownsRow lo e sz v n xs):Il v:=by
 rcases h.2 with⟨h3,_⟩ | ⟨q,cap,cur,h3,_⟩<;>rw[h3]<;>trivial
theorem BT (h:isTu undef):False:=by
 obtain⟨vs,x,h,hx⟩:=h;simp only[Go.undef,Value.tuple.injEq]at h;subst h;simp at hx
theorem Eh (k:Il v) (h:isTu v):False:=by obtain⟨_,_,h,_⟩:=h;rw[h]at k;exact k
theorem U5 {xs:List Value}(h:w.ownsRow 0 e sz v n xs) (hb:Bc v b):b<w.heap.size:=by
 obtain⟨_,h2⟩:=h;rcases h2 with⟨hv,_⟩ | ⟨q,cap,cur,hv,hg,hh,_⟩
 ·rw[hv]at hb;exact hb.nil.elim
 ·rw[hv]at hb;have:=hb.sl;grind
theorem BL.lt {o:AD}{gv:Value}(r:BL w Z g h o gv) (hb:FF gv o b):b<w.heap.size:=by
 cases o with
 | cells cs=>
  obtain⟨b',c,e,hv,hh,_⟩:=r;have hb:Bc gv b:=hb;rw[hv]at hb;have:=hb.ptr;grind
 | tok n sz e=>
  obtain⟨_,xs,hx⟩:=r;exact U5 hx hb
 | map kt et es=>
  obtain⟨q,m,cl,hv,hh,_⟩:=r;have hb:Bc gv b:=hb;rw[hv]at hb;have:=hb.map;grind
 | arr cs1 ag sz rows cs2=>
  obtain⟨_,b',c,e,hv,hh,_⟩:=r;have hb:Bc gv b:=hb;rw[hv]at hb;have:=hb.ptr;grind
 | tree kd ag sz rows foc=>
  obtain⟨ht,h0,hf,xs,hx,hc,U,T,h1,h2,h3,h4,h5⟩:=r;rcases (h5 b).1 hb with h12 | ⟨i,j,h12⟩
  ·exact hx.lt h12
  ·obtain⟨hi,r,c,p1,p2⟩:=h2 i j b h12;exact Cm.lt (h1 i r j c hi p1 p2).2 b h12
 | pmap n1 sz n rows foc=>
  obtain⟨ht,q,m,cl,B,hv,hh,hs,hbn,h1,h2,h3,h4,h5,h6⟩:=r;rcases (h6 b).1 hb with rfl | ⟨k,hk,hf,rfl⟩
  ·grind
  ·obtain⟨_,c,e,g1,_⟩:=h3 k rows[k] (List.getElem?_eq_getElem hk) hf;grind
 | part c ag sz rows=>exact r.2.lt b hb
 | fnl f cs rows=>
  obtain⟨ht,h1,xs,hx,hr⟩:=r;exact hx.lt ((h1 b).1 hb)
 | gone=>exact hb.elim
 | rnd rf sl=>
  obtain⟨l,L,hv,hh,_⟩:=r;have hb:Bc gv b:=hb;rw[hv]at hb;have:=hb.map;grind
 | rndX j=>
  obtain⟨l,L,hv,hh,_⟩:=r;have hb:Bc gv b:=hb;rw[hv]at hb;have:=hb.map;grind
theorem DA.upd {X:Ak}(R:DA w X g h) (T:Id→Prop) (hX:∀b o,X b o→b<w.heap.size)
  (E:HC w (Av (zone g h) X) g h w' (Av (zone g' h') X) g' h')
  (hsame:∀i,¬T i→h' i=h i∧g' i=g i)
  (hworld:∀i o b,¬T i→h i=some o→FF (g i) o b→w'.heap[b]?=w.heap[b]?)
  (hobj:∀i o,T i→h' i=some o→BL w' (Av (zone g' h') X) g' h' o (g' i))
  (hblk:∀i o b,T i→h' i=some o→FF (g' i) o b→(∃j o0,T j∧h j=some o0∧FF (g j) o0 b)∨w.heap.size≤b)
  (hsep:∀i j oi oj b,T i→T j→h' i=some oi→h' j=some oj→FF (g' i) oi b→FF (g' j) oj b→i=j):
  DA w' X g' h':=by
 have lt:∀i o b,h i=some o→FF (g i) o b→b<w.heap.size:=fun i o b ho hb=>(R.objs i o ho).lt hb
 have mixed:∀i j oi oj b,T i→¬T j→h' i=some oi→h' j=some oj→FF (g' i) oi b→FF (g' j) oj b→i=j:=by
  intro i j oi oj b ti tj hi hj bi bj;rw[(hsame j tj).1]at hj;rw[(hsame j tj).2]at bj;rcases hblk i oi b ti hi bi with⟨j0,o0,t0,h0,b0⟩ | hge
  ·exact absurd (R.sep j0 j o0 oj b h0 hj b0 bj▸t0) tj
  grind
 refine⟨fun i o ho=>?_,fun i j oi oj b hi hj bi bj=>?_,fun i oi b o hi bi hx=>?_⟩
 ·by_cases ti:T i
  ·exact hobj i o ti ho
  ·rw[(hsame i ti).1]at ho;rw[(hsame i ti).2];exact (R.objs i o ho).evo E (fun b hb=>hworld i o b ti ho hb)
 ·by_cases ti:T i
  ·grind
  ·by_cases tj:T j
   ·grind
   ·rw[(hsame i ti).1]at hi;rw[(hsame i ti).2]at bi;rw[(hsame j tj).1]at hj;rw[(hsame j tj).2]at bj;exact R.sep i j oi oj b hi hj bi bj
 ·by_cases ti:T i
  ·rcases hblk i oi b ti hi bi with⟨j0,o0,t0,h0,b0⟩ | hge
   ·exact R.apart j0 o0 b o h0 b0 hx
   grind
  ·rw[(hsame i ti).1]at hi;rw[(hsame i ti).2]at bi;exact R.apart i oi b o hi bi hx
end
end
def CR (s:AL) (d:Option Tmp) (v:AV):AL:=
 match d with
 | some d=>fun t=>if t=d then v else s t
 | none=>s
def Ap (g:AP) (i:Id) (v:Value):AP:=fun j=>if j=i then v else g j
def AK (h:Heap) (i:Id) (o:AD):Heap:=fun j=>if j=i then some o else h j
theorem AY.step {C:Cx}{F F':Nat→Prop}{s:AL}{h h':Heap}{g g':AP}{a:Act}{w w':World}(R:AY C F s h g a w) (T:Id→Prop)
    (E:HC w (Av (zone g h) C.X) g h w' (Av (zone g' h') C.X) g' h')
    (hF:Bs (zone g h) w w')
    (hsame:∀i,¬T i→h' i=h i∧g' i=g i)
    (hworld:∀i o b,¬T i→h i=some o→FF (g i) o b→w'.heap[b]?=w.heap[b]?)
    (hobj:∀i o,T i→h' i=some o→BL w' (Av (zone g' h') C.X) g' h' o (g' i))
    (hzon:∀i ob b o,T i→h' i=some ob→BS (g' i) ob b o→(∃j o0,T j∧h j=some o0∧BS (g j) o0 b o)∨w.heap.size≤b)
    (hsep:∀i j oi oj b,T i→T j→h' i=some oi→h' j=some oj→FF (g' i) oi b→FF (g' j) oj b→i=j)
    (hext:∀j,T (.ext j)→CU (g (.ext j)) (g' (.ext j)))
    (hfree:∀n,F' n→g' (.loc n)=undef∧h' (.loc n)=none):
    AY C F' s h' g' a w':=by
  have hX:∀b o,C.X b o→b<w.heap.size:=fun b o hx=>Nat.lt_of_lt_of_le (R.xs b o hx) R.frame.size
  have hnz:∀b o,b<C.w0.heap.size→¬C.Z0 b o→¬zone g h b o:=by
    rintro b o hb hz ⟨i,ob,hi,h1⟩
    rcases R.within i ob b o hi h1 with h2 | h2
    · exact hz h2
    · omega
  have hfr:Bs C.Z0 C.w0 w':=
    ⟨hF.os.trans R.frame.os,hF.tape.trans R.frame.tape,hF.output.trans R.frame.output,Nat.le_trans R.frame.size hF.size,
     fun b hb hz=>(hF.block b (Nat.lt_of_lt_of_le hb R.frame.size) (fun o=>hnz b o hb (hz o))).trans (R.frame.block b hb hz),
     fun b o u hu hz=>hF.cell b o u (R.frame.cell b o u hu hz) (hnz b o (World.block_lt_of_cell? C.w0 ⟨b,o,none⟩ hu) hz)⟩
  have hblk:∀i o b,T i→h' i=some o→FF (g' i) o b→(∃j o0,T j∧h j=some o0∧FF (g j) o0 b)∨w.heap.size≤b:=by
    intro i o b ti hi hb;obtain⟨p,hp⟩:=hb.zone;rcases hzon i o b p ti hi hp with⟨j,o0,tj,hj,h1⟩ | h1
    · exact .inl ⟨j,o0,tj,hj,h1.HA⟩
    · exact .inr h1
  refine⟨R.size,E.tG R.defers,fun t=>E.U0 (R.slots t),R.heap.upd T hX E hsame hworld hobj hblk hsep,hfr,fun j=>?_,fun i ob b o hi hz=>?_,R.xs,hfree⟩
  · by_cases tj:T (.ext j)
    · exact (R.ext j).trans (hext j tj)
    · rw[(hsame _ tj).2]
      exact R.ext j
  · by_cases ti:T i
    · rcases hzon i ob b o ti hi hz with⟨j,o0,tj,hj,h1⟩ | h1
      · exact R.within j o0 b o hj h1
      · exact .inr (Nat.le_trans R.frame.size h1)
    · rw[(hsame _ ti).1]at hi
      rw[(hsame _ ti).2]at hz;exact R.within i ob b o hi hz
end Go.AM
namespace Go.AM
open Go Go.RowKit
structure TI where
 desc:TypeDesc
 size:Nat
 bytes:Nat
 zero:Value
 zc:List CV
def SK:CV→Value→Prop
 | .d (.int k n),.int k' m=>k=k'∧n=m
 | .d (.bool b),.bool b'=>b=b'
 | .d (.str s),.string s'=>s=s'
 | .nils _ _,.slice none 0 0=>True
 | .nilp,.pointer none=>True
 | .nilf,.nilFunc=>True
 | .nilm,.map none=>True
 | .un,v=>v.oneCell'=true
 | _,_=>False
abbrev Types:=TypeId→Option TI
def Ay (P:Program) (ti:Types):Prop:=∀t x,ti t=some x→P.underlying t=some x.desc∧
 ∃i,P.info? t=some i∧i.size=x.size∧i.bytes=x.bytes∧i.zero=some x.zero∧x.zero.cells.size=x.size∧x.zc.length=x.size∧
  ∀(j:Nat) c u,x.zc[j]?=some c→x.zero.cells[j]?=some u→SK c u
def AR:TypeDesc→Bool
 | .struct _ | .array _ _=>true
 | _=>false
def V1.ofC:CV→V1
 | .d x=>.d x
 | y=>.c y
def V1.cells:V1→List CV
 | .d x=>x.cells.map CV.d
 | .c x=>[x]
 | .agg cs=>cs
def U6:List CV→Option (List D)
 | []=>some []
 | .d x::r=>match U6 r with
  | some ds=>some (x::ds)
  | none=>none
 | _::_=>none
def Ki:List CV→Option (List D)
 | []=>some []
 | .d x::r=>match Ki r with
  | some ds=>some (x::ds)
  | none=>none
 | .nils ag sz::r=>match Ki r with
  | some ds=>some (.list ag sz []::ds)
  | none=>none
 | .tl ag sz rows::r=>match Ki r with
  | some ds=>some (.list ag sz rows::ds)
  | none=>none
 | .lst _ ag sz rows::r=>match Ki r with
  | some ds=>some (.list ag sz rows::ds)
  | none=>none
 | _::_=>none
def V1.Aa (ag:Bool) (cs:List CV):V1:=
 match ag with
 | true=>match U6 cs with
  | some ds=>.d (.agg ds)
  | none=>.agg cs
 | false=>match cs with
  | [y]=>V1.ofC y
  | _=>.c .un
def V1.norm:V1→V1
 | .c (.nils ag sz)=>.d (.list ag sz [])
 | .c (.tl ag sz rows)=>.d (.list ag sz rows)
 | .c (.lst _ ag sz rows)=>.d (.list ag sz rows)
 | .agg cs=>match Ki cs with
  | some ds=>.d (.agg ds)
  | none=>.agg cs
 | x=>x
section
variable {w:World}{Z:Ak}{g:AP}{h:Heap}
section
variable {v:Value}
theorem Ah.ofC {c:CV}(r:BB w Z g h c v):Ah w Z g h (V1.ofC c) v:=by
 cases c<;>first | exact r | exact r.1
theorem Fv (ag:Bool) (sz:Nat):AZ w Z (.list ag sz []) (.slice none 0 0):=
 .list ag sz [] none 0 0 0 (fun _ _=>undef) (Nat.le_refl _) (Nat.zero_le _) (by simp) (by simp) (by simp) (by simp)
theorem BB.BR {c:CV}(r:BB w Z g h c v):v.oneCell'=true:=by
 cases c with
 | un=>exact r
 | d x=>exact r.1.BR r.2
 | ptr i o=>
  obtain⟨⟨b,hb⟩,rfl⟩:=r;rw[hb];rfl
 | row ag sz x=>obtain⟨_,b,o,rfl,_⟩:=r;rfl
 | rp cs=>obtain⟨_,b,o,rfl,_⟩:=r;rfl
 | nilp=>rw[show v=_ from r];rfl
 | fn f cap=>rw[r.1];rfl
 | nilf=>rw[show v=_ from r];rfl
 | nils ag sz=>rw[show v=_ from r];rfl
 | tl ag sz rows=>exact r.1.BR rfl
 | lst i ag sz rows=>exact r.1.BR rfl
 | sl i n=>
  obtain⟨⟨b,hb⟩,rfl⟩:=r;rw[hb];rfl
 | map i=>
  obtain⟨rfl,m,hm⟩:=r;rw[hm];rfl
 | nilm=>rw[show v=_ from r];rfl
 | ap i base sz k o=>
  obtain⟨⟨b,hb⟩,rfl⟩:=r;rw[hb];rfl
 | ow i=>exact r.1
 | op i sz k o=>exact r.1
 | yl i=>obtain⟨l,_,rfl⟩:=r;rfl
 | bm f i=>rw[r.2];rfl
 | fz f cs=>obtain⟨ps,rfl,_⟩:=r;rfl
 | fb i=>obtain⟨b,u,rfl,_⟩:=r;rfl
 | kv u=>rw[r.1];exact r.2
theorem Ah.cells {x:V1}(r:Ah w Z g h x v):
  v.cells.size=x.cells.length∧∀(j:Nat) c u,x.cells[j]?=some c→v.cells[j]?=some u→BB w Z g h c u:=by
 cases x with
 | d x=>
  obtain⟨h1,h2⟩:=AZ.cellsOf r;refine⟨by simpa [V1.cells] using h1,fun j c u hc hu=>?_⟩
  simp only[V1.cells,List.getElem?_map,Option.map_eq_some_iff]at hc;obtain⟨d,hd,rfl⟩:=hc;exact h2 j d u hd hu
 | c x=>
  have hv:v.cells=#[v]:=D6 (BB.BR r);rw[hv];refine⟨rfl,fun j c u hc hu=>?_⟩
  match j with
  | 0=>simp[V1.cells]at hc hu;subst hc;subst hu;exact r
  | j+1=>simp[V1.cells]at hc
 | agg cs=>
  obtain⟨vs,rfl,hs,hr⟩:=r;exact⟨hs,hr⟩
variable {cs:List CV}
theorem Zb {ds:List D}(he:U6 cs=some ds):cs=ds.map CV.d:=by
 induction cs generalizing ds with
 | nil=>simp[U6]at he;subst he;rfl
 | cons c r ih=>
  cases c<;>simp only[U6]at he<;>try (exact absurd he (by simp))
  split at he
  ·rename_i ds' hd;simp at he;subst he;rw[ih hd];rfl
  ·simp at he
theorem Ah.Aa {ag:Bool}{vs:Array Value}(hs:vs.size=cs.length)
  (hr:∀(j:Nat) c u,cs[j]?=some c→vs[j]?=some u→BB w Z g h c u):
  (ag=true→Ah w Z g h (V1.Aa ag cs) (.agg vs))∧(ag=false→∀v,vs=#[v]→Ah w Z g h (V1.Aa ag cs) v):=by
 constructor
 ·rintro rfl
  unfold V1.Aa;simp only[];split
  ·rename_i ds hd;have e:=Zb hd;subst e;refine .agg ds vs (by simpa using hs) (fun c hc=>?_) (fun j c v hc hv=>?_)
   ·obtain⟨j,hj⟩:=List.mem_iff_getElem?.1 hc
    have hlt:j<vs.size:=by
     grind
    exact (hr j (.d c) vs[j] (by simp[hj]) (by simp[hlt])).2
   ·exact (hr j (.d c) v (by simp[hc]) hv).1
  ·exact⟨vs,rfl,hs,hr⟩
 ·rintro rfl v rfl
  have h1:cs.length=1:=by simpa using hs.symm
  match cs,h1 with
  | [c],_=>exact Ah.ofC (hr 0 c v rfl rfl)
theorem SL {ds:List D}(he:Ki cs=some ds):
  ds.length=cs.length∧∀(j:Nat) x c v,ds[j]?=some x→cs[j]?=some c→BB w Z g h c v→AZ w Z x v∧x.isAgg=false:=by
 induction cs generalizing ds with
 | nil=>simp[Ki]at he;simp_all
 | cons c r ih=>
  have main:∀y,(∀v,BB w Z g h c v→AZ w Z y v∧y.isAgg=false)→
    (match Ki r with | some ds=>some (y::ds) | none=>none)=some ds→
    ds.length=(c::r).length∧∀(j:Nat) x c' v,ds[j]?=some x→(c::r)[j]?=some c'→BB w Z g h c' v→AZ w Z x v∧x.isAgg=false:=by
   grind
  cases c<;>simp only[Ki]at he<;>try (exact absurd he (by simp))
  ·exact main _ (fun v hr=>hr) he
  ·exact main _ (fun v hr=>by rw[show v=_ from hr];exact⟨Fv _ _,rfl⟩) he
  ·exact main _ (fun v hr=>⟨hr.1,rfl⟩) he
  ·exact main _ (fun v hr=>⟨hr.1,rfl⟩) he
theorem Ah.norm {x:V1}(r:Ah w Z g h x v):Ah w Z g h x.norm v:=by
 cases x with
 | d x=>exact r
 | c x=>
  cases x<;>first
   | exact r
   | (rw[show v=_ from r];exact Fv _ _)
   | exact r.1
 | agg cs=>
  obtain⟨vs,rfl,hs,hr⟩:=r;show Ah w Z g h (match Ki cs with | some ds=>.d (.agg ds) | none=>.agg cs) (.agg vs)
  cases hd:Ki cs with
  | some ds=>
    obtain⟨h1,h2⟩:=SL (w:=w) (Z:=Z) (g:=g) (h:=h) hd;have get:∀j,j<cs.length→∃c u,cs[j]?=some c∧vs[j]?=some u:=fun j hj=>⟨cs[j],vs[j],by simp[hj],by simp[hs,hj]⟩
    refine .agg ds vs (by omega) (fun c hc=>?_) (fun j c v hc hv=>?_)
    ·obtain⟨j,hj⟩:=List.mem_iff_getElem?.1 hc;grind
    grind
  | none=>exact⟨vs,rfl,hs,hr⟩
end
end
def Ad (pre:List AD):Heap
 | .ext j=>pre[j]?
 | .loc _=>none
def BQ (post new:List AD):Heap
 | .ext j=>post[j]?
 | .loc k=>new[k]?
def sameKind:AD→AD→Prop
 | .cells _,.cells _=>True
 | .tok n sz e,.tok n' sz' e'=>n=n'∧sz=sz'∧e=e'
 | .map ..,.map ..=>True
 | .arr ..,.arr ..=>True
 | .tree ..,.tree ..=>True
 | .pmap ..,.pmap ..=>True
 | .rnd ..,.rnd ..=>True
 | .rnd ..,.rndX _=>True
 | .rndX _,.rndX _=>True
 | _,.gone=>True
 | _,_=>False
def Bi:List AD→List AD→Prop
 | [],[]=>True
 | a::al,b::bs=>sameKind a b∧Bi al bs
 | _,_=>False
structure CW (w:World) (X:Ak) (g:AP) (pre:List AD) (res:AV) (post new:List AD) (v:Value) (w':World) (g':AP):Prop where
 heap:DA w' X g' (BQ post new)
 res:An w' (Av (zone g' (BQ post new)) X) g' (BQ post new) res v
 frame:Bs (zone g (Ad pre)) w w'
 ext:∀j,CU (g (.ext j)) (g' (.ext j))
 within:∀i ob b o,BQ post new i=some ob→BS (g' i) ob b o→zone g (Ad pre) b o∨w.heap.size≤b
 none:∀k,new.length≤k→g' (.loc k)=undef
def Et (P:Program) (I:Inv) (f:FuncId) (args:List V1) (pre:List AD) (Q:AV→List AD→List AD→Prop):Prop:=
 (∃fn c,P.funcs[f]?=some fn∧fn.body=some c∧(fn.name== "runtime.NumGoroutine")=false)∧
 ∀w X g (vals:Array Value),(∀b o,X b o→b<w.heap.size)→I.at w (Av (zone g (Ad pre)) X)→DA w X g (Ad pre)→(∀n,g (.loc n)=undef)→vals.size=args.length→
  (∀(j:Nat) x v,args[j]?=some x→vals[j]?=some v→Ah w (Av (zone g (Ad pre)) X) g (Ad pre) x v)→
  Calls P f vals w fun e w'=>∃v g' res post new,Q res post new∧e= .returned v∧CW w X g pre res post new v w' g'
def AAb (P:Program) (I:Inv) (f:FuncId) (args:List V1) (pre:List AD) (v0:Value) (post new:List AD):Prop:=
 (∃fn c,P.funcs[f]?=some fn∧fn.body=some c∧(fn.name== "runtime.NumGoroutine")=false)∧
 ∀w X g (vals:Array Value),(∀b o,X b o→b<w.heap.size)→I.at w (Av (zone g (Ad pre)) X)→DA w X g (Ad pre)→(∀n,g (.loc n)=undef)→vals.size=args.length→
  (∀(j:Nat) x v,args[j]?=some x→vals[j]?=some v→Ah w (Av (zone g (Ad pre)) X) g (Ad pre) x v)→
  Calls P f vals w fun e w'=>∃g',e= .panicked [{v:=v0,recovered:=false}]∧CW w X g pre .u post new undef w' g'
def C0 (P:Program) (I:Inv) (f:FuncId) (args:List V1) (pre:List AD) (res:AV) (post new:List AD):Prop:=Et P I f args pre fun r p n=>r=res∧p=post∧n=new
section
variable {args:List V1}{pre post new:List AD}
theorem C0.calls {P:Program}{I:Inv}{f:FuncId}{res:AV}(h:C0 P I f args pre res post new) {w:World}{X:Ak}{g:AP}{vals:Array Value}
  (h1:∀b o,X b o→b<w.heap.size) (h2:I.at w (Av (zone g (Ad pre)) X)) (h3:DA w X g (Ad pre)) (h4:∀n,g (.loc n)=undef) (h5:vals.size=args.length)
  (h6:∀(j:Nat) x v,args[j]?=some x→vals[j]?=some v→Ah w (Av (zone g (Ad pre)) X) g (Ad pre) x v):
  Calls P f vals w fun e w'=>∃v g',e= .returned v∧CW w X g pre res post new v w' g':=
 (h.2 w X g vals h1 h2 h3 h4 h5 h6).mono (by grind)
theorem C0.mk' {P:Program}{I:Inv}{f:FuncId}{res:AV}(h1:∃fn c,P.funcs[f]?=some fn∧fn.body=some c∧(fn.name== "runtime.NumGoroutine")=false)
  (h:∀w X g (vals:Array Value),(∀b o,X b o→b<w.heap.size)→I.at w (Av (zone g (Ad pre)) X)→DA w X g (Ad pre)→(∀n,g (.loc n)=undef)→vals.size=args.length→
   (∀(j:Nat) x v,args[j]?=some x→vals[j]?=some v→Ah w (Av (zone g (Ad pre)) X) g (Ad pre) x v)→
   Calls P f vals w fun e w'=>∃v g',e= .returned v∧CW w X g pre res post new v w' g'):C0 P I f args pre res post new:=
 ⟨h1,fun w X g vals k1 k2 k3 k4 k5 k6=>(h w X g vals k1 k2 k3 k4 k5 k6).mono (by grind)⟩
end
section
variable {w:World}{Z Z':Ak}{g g':AP}{h h':Heap}{r:Id→Id}
section
variable {v:Value}
theorem Es.pull (hz:∀b o,Z' b o→Z b o) (hg:∀i,g' i=g (r i)) (hd:∀{x:D}{u:Value},AZ w Z x u→AZ w Z' x u) {f:Nat}{cs:List FC}(q:Es w Z g f (cs.map (FC.A0 r)) v):Es w Z' g' f cs v:=
 q.to (fun b o u hu hn=>⟨hu,fun hz'=>hn (hz _ _ hz')⟩) hd r (by simp) fun j c c' h1 h2=>by
  rw[List.getElem?_map,h2]at h1;cases h1
  cases c' with
  | p i=>exact⟨rfl,fun _ _=>hg i⟩
  | d x=>exact rfl
  | h=>trivial
theorem Es.push (hz:∀b o u,w.cell? ⟨b,o,none⟩=some u→¬Z' b o→¬Z b o) (hg:∀i,g' i=g (r i)) (hd:∀{x:D}{u:Value},AZ w Z' x u→AZ w Z x u) {f:Nat}{cs:List FC}(q:Es w Z' g' f cs v):Es w Z g f (cs.map (FC.A0 r)) v:=by
 obtain⟨ps,hv,hs,hb⟩:=q;refine⟨ps,hv,by simpa using hs,fun j c p hc hp=>?_⟩
 rw[List.getElem?_map,Option.map_eq_some_iff]at hc;obtain⟨c',hc',rfl⟩:=hc;obtain⟨b,u,h1,h2,h3,h4⟩:=hb j c' p hc' hp;refine⟨b,u,h1,h2,hz _ _ _ h2 h3,?_⟩;cases c' with
 | p i=>simp only[nB,FC.A0,hg]at h4 ⊢;exact h4
 | d x=>exact⟨hd h4.1,h4.2⟩
 | h=>exact h4.elim
theorem BB.pull (hz:∀b o,Z' b o→Z b o) (hg:∀i,g' i=g (r i)) (ht:∀i n sz e,h' i=some (.tok n sz e)→h (r i)=some (.tok n sz e)) (hw:∀i,isLive (h' i)=true→isLive (h (r i))=true)
  {c:CV} (q:BB w Z g h (c.A0 r) v):BB w Z' g' h' c v:=by
 have hd:∀{x:D} {u:Value},AZ w Z x u→AZ w Z' x u:=fun q=>q.mono (fun b o u hu hn=>⟨hu,fun hz'=>hn (hz _ _ hz')⟩)
 cases c with
 | un=>exact q
 | d x=>exact⟨hd q.1,q.2⟩
 | ptr i o=>simp only[CV.A0,BB,←hg]at q ⊢;exact q
 | row ag sz x=>
  obtain⟨hf,b,o,hv,U,hU⟩:=q;exact⟨hf,b,o,hv,U,fun j c hc=>⟨(hU j c hc).1,fun hz'=>(hU j c hc).2.1 (hz _ _ hz'),hd (hU j c hc).2.2⟩⟩
 | rp cs=>
  obtain⟨hf,b,o,hv,U,hU⟩:=q;exact⟨hf,b,o,hv,U,fun j c hc=>⟨(hU j c hc).1,fun hz'=>(hU j c hc).2.1 (hz _ _ hz'),hd (hU j c hc).2.2⟩⟩
 | nilp=>exact q
 | fn f cap=>
  simp only[CV.A0,BB,List.map_map,List.forall_mem_map]at q ⊢;simp_all
 | nilf=>exact q
 | nils ag sz=>exact q
 | tl ag sz rows=>exact⟨hd q.1,q.2⟩
 | lst i ag sz rows=>
  obtain⟨q1,q2,q3⟩:=q;exact⟨hd q1,by rw[hg];exact q2,fun n sz' e hn=>by grind⟩
 | sl i n=>simp only[CV.A0,BB,←hg]at q ⊢;exact q
 | map i=>simp only[CV.A0,BB,←hg]at q ⊢;exact q
 | nilm=>exact q
 | ap i base sz k o=>simp only[CV.A0,BB,←hg]at q ⊢;exact q
 | ow i=>
  obtain⟨q1,q2,q3⟩:=q;exact⟨q1,by rw[hg];exact q2,fun hm=>by simp_all⟩
 | op i sz k o=>
  obtain⟨q1,q2,q3⟩:=q;exact⟨q1,by rw[hg];exact q2,fun hm=>by simp_all⟩
 | yl i=>simp only[CV.A0,BB,←hg]at q ⊢;exact q
 | bm f i=>simp only[CV.A0,BB,←hg]at q ⊢;exact q
 | fz f cs=>exact Es.pull hz hg hd q
 | fb i=>
  obtain⟨b,u,h1,h2,h3,h4⟩:=q;exact⟨b,u,h1,h2,fun hz'=>h3 (hz _ _ hz'),by simp only[nB,←hg]at h4 ⊢;exact h4⟩
 | kv u=>exact q
theorem BB.push (hz:∀b o u,w.cell? ⟨b,o,none⟩=some u→¬Z' b o→¬Z b o) (hg:∀i,g' i=g (r i)) (ht:∀i n sz e,h (r i)=some (.tok n sz e)→h' i=some (.tok n sz e)) (hw:∀i,isLive (h (r i))=true→isLive (h' i)=true)
  {c:CV} (q:BB w Z' g' h' c v):BB w Z g h (c.A0 r) v:=by
 have hd:∀{x:D} {u:Value},AZ w Z' x u→AZ w Z x u:=fun q=>q.mono (fun b o u hu hn=>⟨hu,hz b o u hu hn⟩)
 cases c with
 | un=>exact q
 | d x=>exact⟨hd q.1,q.2⟩
 | ptr i o=>simp only[CV.A0,BB,hg]at q ⊢;exact q
 | row ag sz x=>
  obtain⟨hf,b,o,hv,U,hU⟩:=q;exact⟨hf,b,o,hv,U,fun j c hc=>⟨(hU j c hc).1,hz _ _ _ (hU j c hc).1 (hU j c hc).2.1,hd (hU j c hc).2.2⟩⟩
 | rp cs=>
  obtain⟨hf,b,o,hv,U,hU⟩:=q;exact⟨hf,b,o,hv,U,fun j c hc=>⟨(hU j c hc).1,hz _ _ _ (hU j c hc).1 (hU j c hc).2.1,hd (hU j c hc).2.2⟩⟩
 | nilp=>exact q
 | fn f cap=>
  simp only[CV.A0,BB,List.map_map,List.forall_mem_map]at q ⊢;simp_all
 | nilf=>exact q
 | nils ag sz=>exact q
 | tl ag sz rows=>exact⟨hd q.1,q.2⟩
 | lst i ag sz rows=>
  obtain⟨q1,q2,q3⟩:=q;exact⟨hd q1,by rw[←hg];exact q2,fun n sz' e hn=>by grind⟩
 | sl i n=>simp only[CV.A0,BB,hg]at q ⊢;exact q
 | map i=>simp only[CV.A0,BB,hg]at q ⊢;exact q
 | nilm=>exact q
 | ap i base sz k o=>simp only[CV.A0,BB,hg]at q ⊢;exact q
 | ow i=>
  obtain⟨q1,q2,q3⟩:=q;exact⟨q1,by rw[←hg];exact q2,fun hm=>by simp_all⟩
 | op i sz k o=>
  obtain⟨q1,q2,q3⟩:=q;exact⟨q1,by rw[←hg];exact q2,fun hm=>by simp_all⟩
 | yl i=>simp only[CV.A0,BB,hg]at q ⊢;exact q
 | bm f i=>simp only[CV.A0,BB,hg]at q ⊢;exact q
 | fz f cs=>exact Es.push hz hg hd q
 | fb i=>
  obtain⟨b,u,h1,h2,h3,h4⟩:=q;exact⟨b,u,h1,h2,hz _ _ _ h2 h3,by simp only[nB,hg]at h4 ⊢;exact h4⟩
 | kv u=>exact q
theorem Ah.pull (hz:∀b o,Z' b o→Z b o) (hg:∀i,g' i=g (r i)) (ht:∀i n sz e,h' i=some (.tok n sz e)→h (r i)=some (.tok n sz e)) (hw:∀i,isLive (h' i)=true→isLive (h (r i))=true)
  {c:V1} (q:Ah w Z g h (c.A0 r) v):Ah w Z' g' h' c v:=by
 cases c with
 | d x=>exact AZ.mono (fun b o u hu hn=>⟨hu,fun hz'=>hn (hz _ _ hz')⟩) q
 | c x=>exact BB.pull (r:=r) hz hg ht hw q
 | agg cs=>
  obtain⟨vs,hv,hs,hr⟩:=q;refine⟨vs,hv,by simpa using hs,fun j c u hc hu=>BB.pull (r:=r) hz hg ht hw (hr j (c.A0 r) u (by simp[hc]) hu)⟩
theorem Ah.push (hz:∀b o u,w.cell? ⟨b,o,none⟩=some u→¬Z' b o→¬Z b o) (hg:∀i,g' i=g (r i)) (ht:∀i n sz e,h (r i)=some (.tok n sz e)→h' i=some (.tok n sz e)) (hw:∀i,isLive (h (r i))=true→isLive (h' i)=true)
  {c:V1} (q:Ah w Z' g' h' c v):Ah w Z g h (c.A0 r) v:=by
 cases c with
 | d x=>exact AZ.mono (fun b o u hu hn=>⟨hu,hz b o u hu hn⟩) q
 | c x=>exact BB.push (r:=r) hz hg ht hw q
 | agg cs=>
  obtain⟨vs,hv,hs,hr⟩:=q;refine⟨vs,hv,by simpa using hs,fun j c u hc hu=>?_⟩
  simp only[List.getElem?_map,Option.map_eq_some_iff]at hc;obtain⟨c',hc',rfl⟩:=hc;exact BB.push (r:=r) hz hg ht hw (hr j c' u hc' hu)
theorem An.push (hz:∀b o u,w.cell? ⟨b,o,none⟩=some u→¬Z' b o→¬Z b o) (hg:∀i,g' i=g (r i)) (ht:∀i n sz e,h (r i)=some (.tok n sz e)→h' i=some (.tok n sz e)) (hw:∀i,isLive (h (r i))=true→isLive (h' i)=true)
  {c:AV} (q:An w Z' g' h' c v):An w Z g h (c.A0 r) v:=by
 cases c with
 | u=>trivial
 | v x=>exact Ah.push (r:=r) hz hg ht hw q
 | t xs=>
  obtain⟨vs,hv,hs,hr⟩:=q;refine⟨vs,hv,by simpa using hs,fun j c u hc hu=>?_⟩
  simp only[List.getElem?_map,Option.map_eq_some_iff]at hc;obtain⟨c',hc',rfl⟩:=hc;exact Ah.push (r:=r) hz hg ht hw (hr j c' u hc' hu)
 | df f cs rows=>trivial
theorem An.pull (hz:∀b o,Z' b o→Z b o) (hg:∀i,g' i=g (r i)) (ht:∀i n sz e,h' i=some (.tok n sz e)→h (r i)=some (.tok n sz e)) (hw:∀i,isLive (h' i)=true→isLive (h (r i))=true)
  {c:AV} (q:An w Z g h (c.A0 r) v):An w Z' g' h' c v:=by
 cases c with
 | u=>trivial
 | v x=>exact Ah.pull (r:=r) hz hg ht hw q
 | t xs=>
  obtain⟨vs,hv,hs,hr⟩:=q;refine⟨vs,hv,by simpa using hs,fun j c u hc hu=>Ah.pull (r:=r) hz hg ht hw (hr j (c.A0 r) u (by simp[hc]) hu)⟩
 | df f cs rows=>trivial
theorem DY.pull (hz:∀b o,Z' b o→Z b o) (hg:∀i,g' i=g (r i)) {cl:Bool}{v:AV}{ds:List Deferred}{D:List Nat}(q:DY w Z g cl (v.A0 r) ds D):DY w Z' g' cl v ds D:=by
 cases cl with
 | false=>exact q
 | true=>
  rintro f cs rows rfl
  obtain⟨h1,h2⟩:=q f _ rows rfl;refine⟨h1,fun k y d hy hd=>(h2 k y d hy hd).imp fun ps p=>⟨p.1,?_⟩⟩
  have:=p.2;rw[←Ep]at this;exact Es.pull (r:=r) hz hg (AZ.mono (fun b o u hu hn=>⟨hu,fun hz'=>hn (hz _ _ hz')⟩)) this
variable {ob:AD}
theorem BL.pull (hz:∀b o,Z' b o→Z b o) (hg:∀i,g' i=g (r i)) (ht:∀i n sz e,h' i=some (.tok n sz e)→h (r i)=some (.tok n sz e)) (hw:∀i,isLive (h' i)=true→isLive (h (r i))=true)
  (q:BL w Z g h (ob.A0 r) v):BL w Z' g' h' ob v:=by
 cases ob with
 | cells cs=>
  obtain⟨b,c,e,hv,hh,hs,hr⟩:=q;exact⟨b,c,e,hv,hh,by simpa using hs,fun j x u hx hu=>BB.pull (r:=r) hz hg ht hw (hr j (x.A0 r) u (by simp[hx]) hu)⟩
 | tok n sz e=>exact q
 | map kt et es=>exact q
 | arr cs1 ag sz rows cs2=>
  obtain⟨hf,b,c,e,hv,hh,hs,h1,h2,h3⟩:=q
  refine⟨hf,b,c,e,hv,hh,by simpa using hs,fun j x u hx hu=>BB.pull (r:=r) hz hg ht hw (h1 j (x.A0 r) u (by simp[hx]) hu),fun i y j x hy hx=>?_,
   fun j x u hx hu=>BB.pull (r:=r) hz hg ht hw (h3 j (x.A0 r) u (by simp[hx]) (by simpa using hu))⟩
  obtain⟨u,hu,hd⟩:=h2 i y j x hy hx;exact⟨u,by simpa using hu,AZ.mono (fun b o u hu hn=>⟨hu,fun hz'=>hn (hz _ _ hz')⟩) hd⟩
 | tree kd ag sz rows foc=>
  obtain⟨ht',h0,hf,xs,hx,hc,U,T,h1,h2,h3,h4,h5⟩:=q
  have sk:∀{i:Nat},(∀k cs,foc=some (k,cs)→i≠k)→∀k cs,(match foc with | some x=>some (x.1,x.2.map (CV.A0 r)) | none=>none)=some (k,cs)→i≠k:=by
   grind
  have sk':∀{i:Nat},(∀k cs,(match foc with | some x=>some (x.1,x.2.map (CV.A0 r)) | none=>none)=some (k,cs)→i≠k)→∀k cs,foc=some (k,cs)→i≠k:=by
   grind
  refine⟨ht',h0,hf,xs,hx,fun k cs hk=>?_,U,T,fun i y j c hi hr hj=>⟨(h1 i y j c (sk hi) hr hj).1,(h1 i y j c (sk hi) hr hj).2.map (AZ.mono (fun b o u hu hn=>⟨hu,fun hz'=>hn (hz _ _ hz')⟩)) id⟩,fun i j b hb=>⟨sk' (h2 i j b hb).1,(h2 i j b hb).2⟩,h3,h4,h5⟩
  subst hk;obtain⟨p1,p2,p3⟩:=hc k _ rfl;exact⟨p1,by simpa using p2,fun j c u hj hu=>BB.pull (r:=r) hz hg ht hw (p3 j (c.A0 r) u (by simp[hj]) hu)⟩
 | pmap n1 sz n rows foc=>
  obtain⟨ht',q',m,cl,B,hv,hh,hs,hbn,h1,h2,h3,h4,h5,h6⟩:=q
  have sk:∀{k:Nat},(∀j,foc≠some (k,j))→∀j,(match foc with | some x=>some (x.1,r x.2) | none=>none)≠some (k,j):=by
   grind
  have sk':∀{k:Nat},(∀j,(match foc with | some x=>some (x.1,r x.2) | none=>none)≠some (k,j))→∀j,foc≠some (k,j):=by
   grind
  refine⟨ht',q',m,cl,B,hv,hh,hs,hbn,h1,fun k j hk=>?_,fun k x hx hk=>?_,h4,h5,fun b=>⟨fun hb=>?_,fun hb=>?_⟩⟩
  ·grind
  ·exact (h3 k x hx (sk hk)).mono rfl (AZ.mono (fun b o u hu hn=>⟨hu,fun hz'=>hn (hz _ _ hz')⟩))
  ·grind
  grind
 | part c ag sz rows=>exact⟨q.1,q.2.mono (fun b o u hu hn=>⟨hu,fun hz'=>hn (hz _ _ hz')⟩) fun _ _=>rfl⟩
 | fnl f cs rows=>
  obtain⟨h1,h2,xs,hx,hr⟩:=q;refine⟨h1,h2,xs,hx,fun k y u hy hu=>?_⟩
  have:=hr k y u hy hu;rw[←Ep]at this;exact Es.pull (r:=r) hz hg (AZ.mono (fun b o u hu hn=>⟨hu,fun hz'=>hn (hz _ _ hz')⟩)) this
 | gone=>trivial
 | rnd rf sl=>
  obtain⟨l,L,hv,hh,h1,h2,h3,h4,h5,h6,h7⟩:=q;exact⟨l,L,hv,hh,h1,h2,h3,h4,h5,h6,fun t=>An.pull (r:=r) hz hg ht hw (by rw[←Mm];exact h7 t)⟩
 | rndX j=>exact q
theorem BL.push (hz:∀b o u,w.cell? ⟨b,o,none⟩=some u→¬Z' b o→¬Z b o) (hg:∀i,g' i=g (r i)) (ht:∀i n sz e,h (r i)=some (.tok n sz e)→h' i=some (.tok n sz e)) (hw:∀i,isLive (h (r i))=true→isLive (h' i)=true)
  (q:BL w Z' g' h' ob v):BL w Z g h (ob.A0 r) v:=by
 cases ob with
 | cells cs=>
  obtain⟨b,c,e,hv,hh,hs,hr⟩:=q;refine⟨b,c,e,hv,hh,by simpa using hs,fun j x u hx hu=>?_⟩
  simp only[List.getElem?_map,Option.map_eq_some_iff]at hx;obtain⟨x',hx',rfl⟩:=hx;exact BB.push (r:=r) hz hg ht hw (hr j x' u hx' hu)
 | tok n sz e=>exact q
 | map kt et es=>exact q
 | arr cs1 ag sz rows cs2=>
  obtain⟨hf,b,c,e,hv,hh,hs,h1,h2,h3⟩:=q;refine⟨hf,b,c,e,hv,hh,by simpa using hs,fun j x u hx hu=>?_,fun i y j x hy hx=>?_,fun j x u hx hu=>?_⟩
  ·simp only[List.getElem?_map,Option.map_eq_some_iff]at hx;obtain⟨x',hx',rfl⟩:=hx;exact BB.push (r:=r) hz hg ht hw (h1 j x' u hx' hu)
  ·obtain⟨u,hu,hd⟩:=h2 i y j x hy hx;exact⟨u,by simpa using hu,AZ.mono (fun b o u hu hn=>⟨hu,hz b o u hu hn⟩) hd⟩
  ·simp only[List.getElem?_map,Option.map_eq_some_iff]at hx;obtain⟨x',hx',rfl⟩:=hx;exact BB.push (r:=r) hz hg ht hw (h3 j x' u hx' (by simpa using hu))
 | tree kd ag sz rows foc=>
  obtain⟨ht',h0,hf,xs,hx,hc,U,T,h1,h2,h3,h4,h5⟩:=q
  have sk:∀{i:Nat},(∀k cs,foc=some (k,cs)→i≠k)→∀k cs,(match foc with | some x=>some (x.1,x.2.map (CV.A0 r)) | none=>none)=some (k,cs)→i≠k:=by
   grind
  have sk':∀{i:Nat},(∀k cs,(match foc with | some x=>some (x.1,x.2.map (CV.A0 r)) | none=>none)=some (k,cs)→i≠k)→∀k cs,foc=some (k,cs)→i≠k:=by
   grind
  refine⟨ht',h0,hf,xs,hx,fun k cs hk=>?_,U,T,fun i y j c hi hr hj=>⟨(h1 i y j c (sk' hi) hr hj).1,(h1 i y j c (sk' hi) hr hj).2.map (AZ.mono (fun b o u hu hn=>⟨hu,hz b o u hu hn⟩)) id⟩,fun i j b hb=>⟨sk (h2 i j b hb).1,(h2 i j b hb).2⟩,h3,h4,h5⟩
  cases foc with
  | none=>cases hk
  | some x=>
   cases hk
   obtain⟨p1,p2,p3⟩:=hc x.1 x.2 rfl;refine⟨p1,by simpa using p2,fun j c u hj hu=>?_⟩
   simp only[List.getElem?_map,Option.map_eq_some_iff]at hj;obtain⟨c',hc',rfl⟩:=hj;exact BB.push (r:=r) hz hg ht hw (p3 j c' u hc' hu)
 | pmap n1 sz n rows foc=>
  obtain⟨ht',q',m,cl,B,hv,hh,hs,hbn,h1,h2,h3,h4,h5,h6⟩:=q
  have sk:∀{k:Nat},(∀j,foc≠some (k,j))→∀j,(match foc with | some x=>some (x.1,r x.2) | none=>none)≠some (k,j):=by
   grind
  have sk':∀{k:Nat},(∀j,(match foc with | some x=>some (x.1,r x.2) | none=>none)≠some (k,j))→∀j,foc≠some (k,j):=by
   grind
  refine⟨ht',q',m,cl,B,hv,hh,hs,hbn,h1,fun k j hk=>?_,fun k x hx hk=>?_,h4,h5,fun b=>⟨fun hb=>?_,fun hb=>?_⟩⟩
  ·grind
  ·exact (h3 k x hx (sk' hk)).mono rfl (AZ.mono (fun b o u hu hn=>⟨hu,hz b o u hu hn⟩))
  ·grind
  grind
 | part c ag sz rows=>exact⟨q.1,q.2.mono (fun b o u hu hn=>⟨hu,hz b o u hu hn⟩) fun _ _=>rfl⟩
 | fnl f cs rows=>
  obtain⟨h1,h2,xs,hx,hr⟩:=q;refine⟨h1,h2,xs,hx,fun k y u hy hu=>?_⟩
  rw[←Ep];exact Es.push (r:=r) hz hg (AZ.mono (fun b o u hu hn=>⟨hu,hz b o u hu hn⟩)) (hr k y u hy hu)
 | gone=>trivial
 | rnd rf sl=>
  obtain⟨l,L,hv,hh,h1,h2,h3,h4,h5,h6,h7⟩:=q;exact⟨l,L,hv,hh,h1,h2,h3,h4,h5,h6,fun t=>by rw[Mm];exact An.push (r:=r) hz hg ht hw (h7 t)⟩
 | rndX j=>exact q
theorem Ca {gv:Value}{b o:Nat}:BS gv (ob.A0 r) b o↔BS gv ob b o:=by
 cases ob<;>rfl
theorem C5 {gv:Value}{b:Nat}:FF gv (ob.A0 r) b↔FF gv ob b:=by
 cases ob<;>rfl
theorem DM:isLive (some (ob.A0 r))=isLive (some ob):=by
 cases ob<;>rfl
end
end
end Go.AM
namespace Go.AM
open Go Go.RowKit
structure Out where
 val:AV
 rd:List Id
 wr:List (Id×AD)
def Az (h:Heap):List (Id×AD)→Heap
 | []=>h
 | (i,o)::r=>Az (AK h i o) r
def BJ (c:Bool) (K:Prop):Prop:=
 match c with
 | true=>K
 | false=>False
theorem AA {c:Bool}{K:Prop}:BJ c K↔c=true∧K:=by cases c<;>simp[BJ]
def U7 (ti:Types) (t:TypeId):Value→CV
 | .int k n=>.d (.int k n)
 | .bool b=>.d (.bool b)
 | .string s=>.d (.str s)
 | .pointer none=>.nilp
 | .nilFunc=>.nilf
 | .nilIface=>.kv .nilIface
 | .map none=>.nilm
 | .slice none 0 0=>match ti t with
  | some x=>match x.desc with
   | .slice e=>match ti e with
    | some y=>.nils (AR y.desc) y.size
    | none=>.nils false 1
   | _=>.nils false 1
  | none=>.nils false 1
 | _=>.un
def Zc (c:CV):AV:=
 match c with
 | .un=>.u
 | c=>.v (V1.ofC c)
def zc1:CV→Value→Option CV
 | .nils ag sz,.slice none 0 0=>some (.nils ag sz)
 | .d (.int _ _),.int q n=>some (.d (.int q n))
 | .d (.bool _),.bool b=>some (.d (.bool b))
 | .d (.str _),.string s=>some (.d (.str s))
 | .nilp,.pointer none=>some .nilp
 | _,_=>none
def zcs:List CV→List Value→Option (List CV)
 | [],[]=>some []
 | c::cs,v::vs=>match zc1 c v with
  | some x=>(match zcs cs vs with
   | some xs=>some (x::xs)
   | none=>none)
  | none=>none
 | _,_=>none
def U8 (ti:Types) (t:TypeId) (v:Value):AV:=
 match v with
 | .agg vs=>(match ti t with
  | some x=>(match zcs x.zc vs.toList with
   | some cs=>.v (V1.Aa true cs)
   | none=>.u)
  | none=>.u)
 | v=>Zc (U7 ti t v)
def AX (ti:Types) (s:AL) (t:TypeId):Operand→AV
 | .tmp x=>s x
 | .const v=>U8 ti t v
 | .func f=>.v (.c (.fn f []))
 | .global _=>.u
def DR (x:AV) (k:V1→Prop):Prop:=
 match x with
 | .v y=>k y
 | _=>False
def PB (x:AV) (k:Bool→Prop):Prop:=
 match x with
 | .v (.d (.bool b))=>k b
 | _=>False
def DD (x:AV) (k:IntKind→Int→Prop):Prop:=
 match x with
 | .v (.d (.int q n))=>k q n
 | _=>False
def Ao (ti:Types) (t:TypeId) (k:TI→Prop):Prop:=
 match ti t with
 | some x=>k x
 | none=>False
def HD (x:AV) (k:Bool→Nat→List D→Prop):Prop:=
 match x with
 | .v (.d (.list ag sz rows))=>k ag sz rows
 | .v (.c (.lst _ ag sz rows))=>k ag sz rows
 | .v (.c (.nils ag sz))=>k ag sz []
 | .v (.c (.tl ag sz rows))=>k ag sz rows
 | _=>False
def D7 (ti:Types) (t:TypeId) (x:AV) (h:Heap) (k:Out→Prop):Prop:=
 Ao ti t fun i=>
 match x with
 | .v (.c (.ptr id o))=>match h id with
  | some (.cells cs)=>BJ (Nat.ble (o+i.size) cs.length) (k ⟨.v (V1.Aa (AR i.desc) ((cs.drop o).take i.size)),[id],[]⟩)
  | _=>False
 | .v (.c (.row ag sz d))=>BJ (AR i.desc==ag) (BJ (Nat.beq sz i.size) (k ⟨.v (.d d),[],[]⟩))
 | .v (.c (.rp cs))=>BJ (Nat.ble i.size cs.length) (k ⟨.v (V1.Aa (AR i.desc) ((cs.take i.size).map CV.d)),[],[]⟩)
 | .v (.c (.ap id base sz kk o))=>match h id with
  | some (.cells cs)=>(match Ki (cs.drop base)with
   | some ds=>∃(n:Nat) (r:D),Nat.ble (n*sz) ds.length=true∧(rowsOf true sz n ds)[kk]?=some r∧BJ (Nat.ble (o+i.size) r.cells.length) (k ⟨.v (V1.Aa (AR i.desc) (((r.cells.drop o).take i.size).map CV.d)),[id],[]⟩)
   | none=>BJ (Nat.beq i.size 1)<| BJ (Nat.beq sz 1)<| ∃c,cs[base+(kk*sz+o)]?=some c∧k ⟨.v (V1.Aa (AR i.desc) [c]),[id],[]⟩)
  | _=>False
 | .v (.c (.fb id))=>BJ (Nat.beq i.size 1) (k ⟨.v (V1.Aa (AR i.desc) [.ptr id 0]),[],[]⟩)
 | _=>False
def HE (ti:Types) (t:TypeId) (x y:AV) (h:Heap) (k:Out→Prop):Prop:=
 Ao ti t fun i=>DR y fun y=>
 match x with
 | .v (.c (.ptr id o))=>match h id with
  | some (.cells cs)=>BJ (Nat.ble (o+i.size) cs.length) (BJ (Nat.beq y.cells.length i.size)
    (k ⟨.u,[id],[(id,.cells (cs.take o++y.cells++cs.drop (o+i.size)))]⟩))
  | _=>False
 | .v (.c (.ap id base sz kk o))=>match h id with
  | some (.cells cs)=>BJ (Nat.beq y.cells.length i.size) (base+(kk*sz+o)+i.size≤cs.length∧∃cs',cs.take (base+(kk*sz+o))++y.cells++cs.drop (base+(kk*sz+o)+i.size)=cs'∧k ⟨.u,[id],[(id,.cells cs')]⟩)
  | _=>False
 | _=>False
def HF (ti:Types) (t:TypeId) (x:AV) (f:Nat) (k:Out→Prop):Prop:=
 Ao ti t fun i=>
 match i.desc with
 | .struct fs=>match fs[f]? with
  | some fd=>Ao ti fd.type fun j=>BJ (Nat.blt 0 j.size)<|
   match x with
   | .v (.c (.ptr id o))=>k ⟨.v (.c (.ptr id (o+fd.offset))),[],[]⟩
   | .v (.c (.row _ _ d))=>k ⟨.v (.c (.rp (d.cells.drop fd.offset))),[],[]⟩
   | .v (.c (.rp cs))=>k ⟨.v (.c (.rp (cs.drop fd.offset))),[],[]⟩
   | .v (.c (.ap id b sz kk o))=>k ⟨.v (.c (.ap id b sz kk (o+fd.offset))),[],[]⟩
   | _=>False
  | none=>False
 | _=>False
def Eu (ti:Types) (t:TypeId) (x i:AV) (k:Out→Prop):Prop:=
 DD i fun _ n=>Ao ti t fun q=>
 match q.desc with
 | .slice e=>Ao ti e fun j=>match x with
  | .v (.c (.sl id len))=>∃p:Nat,(n=(p:Int)∧p<len)∧k ⟨.v (.c (.ptr id (p*j.size))),[],[]⟩
  | x=>HD x fun ag sz rows=>BJ (AR j.desc==ag)<| BJ (Nat.beq sz j.size)<|
   ∃r,0≤n∧rows[n.toNat]?=some r∧k ⟨.v (.c (.row ag sz r)),[],[]⟩
 | .array len e=>Ao ti e fun j=>
  match x with
  | .v (.c (.ptr id o))=>0≤n∧n<len∧∃c:Bool,(match c with
   | true=>k ⟨.v (.c (.ptr id (o+n.toNat*j.size))),[],[]⟩
   | false=>k ⟨.v (.c (.ap id o j.size n.toNat 0)),[],[]⟩)
  | _=>False
 | _=>False
def Mp (M:Aw) (ti:Types) (t:TypeId) (x:AV) (k:Out→Prop):Prop:=
 Ao ti t fun q=>
 match q.desc with
 | .slice _=>match x with
  | .v (.c (.sl _ n))=>∃z:Int,(n:Int)=z∧k ⟨.v (.d (.int .i64 z)),[],[]⟩
  | x=>HD x fun _ _ rows=>∃z:Int,M.lenI rows=z∧k ⟨.v (.d (.int .i64 z)),[],[]⟩
 | .string=>match x with
  | .v (.d (.str s))=>∃z:Int,M.szI s=z∧k ⟨.v (.d (.int .i64 z)),[],[]⟩
  | _=>False
 | .array n _=>k ⟨.v (.d (.int .i64 n)),[],[]⟩
 | _=>False
def DC:Bool→Bool
 | true=>false
 | false=>true
def tN:Bool→Bool→Bool
 | true,b=>b
 | false,b=>DC b
def Jm (M:Aw) (op:BinOp) (q:IntKind) (a b:Int) (k:D→Prop):Prop:=
 match op with
 | .add=>∃z,q.wrap (a+b)=z∧k (.int q z)
 | .sub=>∃z,q.wrap (a - b)=z∧k (.int q z)
 | .mul=>∃z,q.wrap (a*b)=z∧k (.int q z)
 | .quo=>∃z,b≠0∧q.wrap (a.tdiv b)=z∧k (.int q z)
 | .rem=>∃z,b≠0∧a.tmod b=z∧k (.int q z)
 | .eql=>M.split (M.eqI a b) fun q=>k (.bool q)
 | .neq=>M.split (M.eqI a b) fun q=>k (.bool (DC q))
 | .lss=>M.split (M.ltI a b) fun q=>k (.bool q)
 | .leq=>M.split (M.leI a b) fun q=>k (.bool q)
 | .gtr=>M.split (M.ltI b a) fun q=>k (.bool q)
 | .geq=>M.split (M.leI b a) fun q=>k (.bool q)
 | _=>False
def SM (M:Aw) (op:BinOp) (a b:ByteArray) (k:D→Prop):Prop:=
 match op with
 | .add=>∃c,a++b=c∧((a.size+b.size:Nat):Int)≤IntKind.i64.max∧k (.str c)
 | .eql=>M.split (M.eqS a b) fun q=>k (.bool q)
 | .neq=>M.split (M.eqS a b) fun q=>k (.bool (DC q))
 | .lss=>M.split (M.ltS a b) fun q=>k (.bool q)
 | _=>False
def G4 (op:BinOp) (c:Bool) (k:D→Prop):Prop:=
 match op with
 | .eql=>k (.bool c)
 | .neq=>k (.bool (DC c))
 | _=>False
def Mq:Value→Value→Option Bool
 | .nilIface,.nilIface=>some true
 | .iface _ _,.nilIface=>some false
 | _,_=>none
def QN (M:Aw) (ti:Types) (op:BinOp) (t:TypeId) (x y:AV) (k:Out→Prop):Prop:=
 let kd (d:D):Prop:=k ⟨.v (.d d),[],[]⟩
 match x,y with
 | .v (.d (.int q a)),.v (.d (.int q' b))=>BJ (decide (q=q')) (Jm M op q a b kd)
 | .v (.d (.str a)),.v (.d (.str b))=>SM M op a b kd
 | .v (.d (.bool a)),.v (.d (.bool b))=>Ao ti t fun i=>match i.desc with
  | .bool=>(match op with
   | .eql=>∃q,tN a b=q∧kd (.bool q)
   | .neq=>∃q,DC (tN a b)=q∧kd (.bool q)
   | _=>False)
  | _=>False
 | .v (.c (.ptr _ _)),.v (.c .nilp)=>Ao ti t fun i=>match i.desc with
  | .pointer _=>G4 op false kd
  | _=>False
 | .v (.c .nilp),.v (.c .nilp)=>Ao ti t fun i=>match i.desc with
  | .pointer _=>G4 op true kd
  | _=>False
 | .v (.c (.map _)),.v (.c .nilm)=>Ao ti t fun i=>match i.desc with
  | .map _ _=>G4 op false kd
  | _=>False
 | .v (.c .nilm),.v (.c .nilm)=>Ao ti t fun i=>match i.desc with
  | .map _ _=>G4 op true kd
  | _=>False
 | .v (.c (.kv u)),.v (.c (.kv v))=>Ao ti t fun i=>match i.desc with
  | .interface ms=>BJ ms.isEmpty (match Mq u v with
   | some q=>G4 op q kd
   | none=>False)
  | _=>False
 | _,_=>False
def XG (op:UnOp) (x:AV) (k:Out→Prop):Prop:=
 match op,x with
 | .not,.v (.d (.bool b))=>∃q,DC b=q∧k ⟨.v (.d (.bool q)),[],[]⟩
 | .neg,.v (.d (.int q a))=>∃z,q.wrap (0 - a)=z∧k ⟨.v (.d (.int q z)),[],[]⟩
 | _,_=>False
def Cn:List AV→Option (List Id)
 | []=>some []
 | .v (.c (.ptr i 0))::r=>match Cn r with
  | some l=>some (i::l)
  | none=>none
 | _::_=>none
def BG (m:List Id) (fresh:Nat):Id→Id
 | .ext j=>match m[j]? with
  | some i=>i
  | none=>.loc (fresh+31)
 | .loc k=>.loc (fresh+(if k<31 then k else 31))
def G5:List AV→Option (List V1)
 | []=>some []
 | .v x::r=>match G5 r with
  | some l=>some (x.norm::l)
  | none=>none
 | _::_=>none
def MQ (m:List Id) (r:Id→Id):List AD→List (Id×AD)
 | []=>[]
 | o::os=>match m with
  | i::is=>(i,o.A0 r)::MQ is r os
  | []=>[]
def Cl (fresh:Nat) (r:Id→Id):Nat→List AD→List (Id×AD)
 | _,[]=>[]
 | k,o::os=>(.loc (fresh+k),o.A0 r)::Cl fresh r (k+1) os
def Jn (P:Program) (I:Inv) (f:FuncId) (args:List V1) (fresh:Nat) (h:Heap) (k:Out→Prop):Prop:=
 ∃(m:List Id) (targs:List V1) (pre:List AD) (res:AV) (post new:List AD),
  C0 P I f targs pre res post new∧args=targs.map (V1.A0 (BG m fresh))∧m.length=pre.length∧m.Nodup∧
  (∀(j:Nat) i o,m[j]?=some i→pre[j]?=some o→h i=some (o.A0 (BG m fresh)))∧Bi pre post∧new.length≤31∧
  k ⟨res.A0 (BG m fresh),m,MQ m (BG m fresh) post++Cl fresh (BG m fresh) 0 new⟩
def withArgs (l:List AV) (k:List V1→Prop):Prop:=
 match G5 l with
 | some xs=>k xs
 | none=>False
def It:List AV→Option (List V1)
 | []=>some []
 | .v x::r=>match It r with
  | some l=>some (x::l)
  | none=>none
 | _::_=>none
def XH (l:List AV) (xs:List V1):Prop:=G5 l=some xs∨It l=some xs
def Fw (l:List AV) (k:List V1→Prop):Prop:=
 ∃b:Bool,match b with
  | true=>withArgs l k
  | false=>match It l with
   | some xs=>k xs
   | none=>False
theorem Fb {l:List AV}{k:List V1→Prop}(h:Fw l k):(∃xs,XH l xs∧k xs)∨False:=by
 obtain⟨b,h⟩:=h;cases b with
 | true=>
  replace h:withArgs l k:=h;unfold withArgs at h;split at h
  ·rename_i xs e;exact .inl ⟨xs,.inl e,h⟩
  ·exact h.elim
 | false=>
  simp only[]at h;split at h
  ·rename_i xs e;exact .inl ⟨xs,.inr e,h⟩
  ·exact h.elim
def YF:FC→V1
 | .p i=>.c (.fb i)
 | .d x=>.c (.rp [x])
 | .h=>.c .un
theorem SN {w:World}{Z:Ak}{g:AP}{h:Heap}{f:Nat}{cs:List FC}{ps:Array Value}(r:Es w Z g f cs (.func (.func f) #[] ps)):ps.size=cs.length∧
  ∀(j:Nat) x v,(cs.map YF)[j]?=some x→ps[j]?=some v→Ah w Z g h x v:=by
 obtain⟨l,hv,hl,hb⟩:=r;cases hv
 refine⟨by simpa using hl,fun j x v hx hv=>?_⟩
 rw[List.getElem?_map,Option.map_eq_some_iff]at hx;obtain⟨c,hc,rfl⟩:=hx;have q:=hb j c v hc (by simpa using hv)
 cases c with
 | p i=>exact q
 | d x=>
  obtain⟨b,u,h1,h2,h3,h4,h5⟩:=q;refine⟨by simpa using h5,b,0,h1,fun _=>u,fun j c hc=>?_⟩
  grind
 | h=>obtain⟨b,u,h1,h2,h3,h4⟩:=q;exact h4.elim
def HG (M:Aw) (f:AV) (args:List AV) (fresh:Nat) (h:Heap) (k:Out→Prop):Prop:=
 match f with
 | .v (.c (.fn n cap))=>Fw args fun xs=>M.lock fun _=>Jn M.P M.I n (xs++cap.map (fun i=>V1.c (.ptr i 0))) fresh h k
 | .v (.c (.bm n i))=>Fw args fun xs=>M.lock fun _=>Jn M.P M.I n (V1.c (.ptr i 0)::xs) fresh h k
 | .v (.c (.fz n cs))=>Fw args fun xs=>M.lock fun _=>Jn M.P M.I n (xs++cs.map YF) fresh h k
 | _=>False
def Bn (ti:Types) (s:AL):List Operand→List TypeId→List AV
 | x::xs,t::ts=>AX ti s t x::Bn ti s xs ts
 | x::xs,[]=>AX ti s 0 x::Bn ti s xs []
 | [],_=>[]
def ptrTo (n:Nat):AV:=.v (.c (.ptr (.loc n) 0))
def Zd (q:Bool) (a b:AV):AV:=
 match q with
 | true=>a
 | false=>b
def SO (ti:Types):List Field→Bool
 | []=>true
 | f::r=>match ti f.type with
  | some _=>SO ti r
  | none=>false
def PC (ti:Types) (s:AL) (fs:List Field) (cs:List CV):List (Nat×Operand)→(List CV→Prop)→Prop
 | [],k=>k cs
 | (i,x)::r,k=>match fs[i]? with
  | some fd=>Ao ti fd.type fun j=>DR (AX ti s fd.type x) fun y=>BJ (Nat.beq y.cells.length j.size)<| BJ (Nat.ble (fd.offset+j.size) cs.length)<|
    PC ti s fs (cs.take fd.offset++y.cells++cs.drop (fd.offset+j.size)) r k
  | none=>False
def PD (ti:Types) (s:AL) (e:TypeId) (sz:Nat) (cs:List CV):List (Nat×Operand)→(List CV→Prop)→Prop
 | [],k=>k cs
 | (i,x)::r,k=>DR (AX ti s e x) fun y=>BJ (Nat.beq y.cells.length sz)<| BJ (Nat.ble (i*sz+sz) cs.length)<|
   PD ti s e sz (cs.take (i*sz)++y.cells++cs.drop (i*sz+sz)) r k
def HH (ti:Types) (s:AL) (t:TypeId) (parts:List (Nat×Operand)) (k:Out→Prop):Prop:=
 Ao ti t fun q=>match q.desc with
 | .struct fs=>BJ (SO ti fs.toList)<| PC ti s fs.toList q.zc parts fun cs=>k ⟨.v (V1.Aa true cs),[],[]⟩
 | .array _ e=>Ao ti e fun j=>PD ti s e j.size q.zc parts fun cs=>k ⟨.v (V1.Aa true cs),[],[]⟩
 | _=>False
def PE (ti:Types) (s:AL) (e:TypeId) (ag:Bool) (sz:Nat):Nat→List (Nat×Operand)→(List D→Prop)→Prop
 | _,[],k=>k []
 | n,(i,x)::r,k=>BJ (Nat.beq i n)<| match AX ti s e x with
  | .v y=>match y.norm with
   | .d d=>BJ (d.isAgg==ag)<| BJ (Nat.beq d.cells.length sz)<| PE ti s e ag sz (n+1) r fun ds=>k (d::ds)
   | _=>False
  | _=>False
def DE (ti:Types) (s:AL) (t:TypeId) (len:Nat) (parts:List (Nat×Operand)) (k:Out→Prop):Prop:=
 Ao ti t fun q=>match q.desc with
 | .slice e=>Ao ti e fun j=>BJ (Nat.ble (len*j.size) 16777216)<| BJ (Nat.beq parts.length len)<| BJ (Nat.blt 0 j.size)<| PE ti s e (AR j.desc) j.size 0 parts fun ds=>
   k ⟨.v (.c (.tl (AR j.desc) j.size ds)),[],[]⟩
 | _=>False
def GS (ti:Types) (s:AL) (e:TypeId) (sz:Nat):Nat→List (Nat×Operand)→(List CV→Prop)→Prop
 | _,[],k=>k []
 | n,(i,x)::r,k=>BJ (Nat.beq i n)<| match AX ti s e x with
  | .v y=>BJ (Nat.beq y.cells.length sz)<| GS ti s e sz (n+1) r fun cs=>k (y.cells++cs)
  | _=>False
def DZ (ti:Types) (s:AL) (t:TypeId) (len:Nat) (parts:List (Nat×Operand)) (fresh:Nat) (k:Out→Prop):Prop:=
 Ao ti t fun q=>match q.desc with
 | .slice e=>Ao ti e fun j=>BJ (Nat.ble (len*j.size) 16777216)<| BJ (Nat.beq parts.length len)<| BJ (Nat.blt 0 j.size)<| GS ti s e j.size 0 parts fun cs=>
   k ⟨.v (.c (.sl (.loc fresh) len)),[],[(.loc fresh,.cells cs)]⟩
 | _=>False
def MR (M:Aw) (ag:Bool) (sz:Nat) (e:TypeId) (bytes fresh:Nat) (isNil:Bool) (rows ys:List D) (k:Out→Prop):Prop:=
 (M.lock fun _=>rows.length+ys.length≤maxLen∧(rows.length+ys.length)*bytes≤140737488355328)∧∃out,rows++ys=out∧∃own:Bool,match own with
  | true=>(isNil=true∨ys≠[])∧k ⟨.v (.c (.lst (.loc fresh) ag sz out)),[],[(.loc fresh,.tok out.length sz e)]⟩
  | false=>k ⟨.v (.d (.list ag sz out)),[],[]⟩
def Fx (M:Aw) (ti:Types) (t:TypeId) (x y:AV) (fresh:Nat) (h:Heap) (k:Out→Prop):Prop:=
 Ao ti t fun q=>match q.desc with
 | .slice e=>Ao ti e fun j=>BJ (Nat.blt 0 j.size)<| HD y fun ag sz ys=>BJ (AR j.desc==ag)<| BJ (Nat.beq sz j.size)<|
  match x with
  | .v (.c (.nils ag' sz'))=>MR M (AR j.desc) j.size e j.bytes fresh true [] ys k
  | .v (.c (.tl ag' sz' rows))=>BJ (AR j.desc==ag')<| BJ (Nat.beq sz' j.size)<| MR M (AR j.desc) j.size e j.bytes fresh false rows ys k
  | .v (.c (.lst (.loc i) ag' sz' rows))=>BJ (AR j.desc==ag')<| BJ (Nat.beq sz' j.size)<| match h (.loc i)with
   | some (.tok n sz2 e2)=>BJ (Nat.beq sz2 j.size)<| BJ (Nat.beq e2 e)<| rows.length=n∧(M.lock fun _=>rows.length+ys.length≤maxLen∧(rows.length+ys.length)*j.bytes≤140737488355328)∧
     ∃out,rows++ys=out∧k ⟨.v (.c (.lst (.loc i) (AR j.desc) j.size out)),[.loc i],[(.loc i,.tok out.length j.size e)]⟩
   | _=>False
  | _=>False
 | _=>False
def MI (ti:Types) (s:AL) (dflt:Int) (x:Option Operand) (k:Int→Prop):Prop:=
 match x with
 | none=>k dflt
 | some x=>DD (AX ti s 3 x) fun _ n=>k n
def QO (ti:Types) (s:AL) (ag:Bool) (sz n:Nat) (lo hi mx:Option Operand) (k:Out→Prop):Prop:=
 match lo,hi,mx with
 | none,some u,none=>DD (AX ti s 3 u) fun _ z=>BJ (Nat.ble n 4294967296) (z=0∧k ⟨.v (.d (.list ag sz [])),[],[]⟩)
 | _,_,_=>False
def HI (M:Aw) (ti:Types) (s:AL) (t:TypeId) (x:AV) (lo hi mx:Option Operand) (k:Out→Prop):Prop:=
 Ao ti t fun q=>match q.desc with
 | .string=>match x with
  | .v (.d (.str b))=>MI ti s 0 lo fun l=>MI ti s (M.szI b) hi fun u=>(match mx with
   | none=>∃r,(0≤l∧l≤u∧u≤M.szI b)∧b.extract l.toNat u.toNat=r∧k ⟨.v (.d (.str r)),[],[]⟩
   | some _=>False)
  | _=>False
 | .slice e=>Ao ti e fun j=>match x with
  | .v (.c (.sl _ n))=>QO ti s (AR j.desc) j.size n lo hi mx k
  | x=>HD x fun ag sz rows=>BJ (AR j.desc==ag)<| BJ (Nat.beq sz j.size)<| MI ti s 0 lo fun l=>MI ti s (M.lenI rows) hi fun u=>
   (match mx with
    | none=>∃out,(0≤l∧l≤u∧u≤M.lenI rows)∧(rows.take u.toNat).drop l.toNat=out∧k ⟨.v (.d (.list ag sz out)),[],[]⟩
    | some m=>match hi with
     | none=>False
     | some _=>DD (AX ti s 3 m) fun _ v=>∃out,(0≤l∧l≤u∧u≤M.lenI rows∧v=u)∧(rows.take u.toNat).drop l.toNat=out∧k ⟨.v (.c (.tl ag sz out)),[],[]⟩)
 | _=>False
def Fy (ti:Types) (t:TypeId) (x i:AV) (k:Out→Prop):Prop:=
 DD i fun _ n=>Ao ti t fun q=>match q.desc with
 | .string=>match x with
  | .v (.d (.str b))=>∃z:Int,(0≤n∧(b[n.toNat]?).map (fun u=>(u.toNat:Int))=some z)∧k ⟨.v (.d (.int .u8 z)),[],[]⟩
  | _=>False
 | .array len e=>Ao ti e fun j=>match x with
  | .v (.d (.agg cs))=>BJ (Nat.beq cs.length (len*j.size))<| ∃r,0≤n∧(rowsOf (AR j.desc) j.size len cs)[n.toNat]?=some r∧k ⟨.v (.d r),[],[]⟩
  | .v (.agg cs)=>BJ (Nat.beq cs.length (len*j.size))<| ∃p:Nat,(n=(p:Int)∧p<len)∧k ⟨.v (V1.Aa (AR j.desc) ((cs.drop (p*j.size)).take j.size)),[],[]⟩
  | _=>False
 | _=>False
def QP:V1→Bool
 | .d x=>x.isAgg
 | .agg _=>true
 | _=>false
def Fz (ti:Types) (t:TypeId) (x:AV) (f:Nat) (k:Out→Prop):Prop:=
 Ao ti t fun i=>match i.desc with
 | .struct fs=>match fs[f]? with
  | some fd=>Ao ti fd.type fun j=>DR x fun y=>BJ (QP y)<| BJ (Nat.ble (fd.offset+j.size) y.cells.length)<| k ⟨.v (V1.Aa (AR j.desc) ((y.cells.drop fd.offset).take j.size)),[],[]⟩
  | none=>False
 | _=>False
def plainKey:TypeDesc→Bool
 | .int _=>true
 | .string=>true
 | _=>false
def I5 (x:TI):Bool:=
 match x.zero with
 | .agg _=>AR x.desc
 | .tuple _=>false
 | _=>DC (AR x.desc)
def F0 (ti:Types) (t:TypeId) (x key:AV) (ok:Bool) (k:Out→Prop):Prop:=
 Ao ti t fun q=>match q.desc with
 | .map kt et=>Ao ti kt fun kk=>Ao ti et fun j=>BJ (plainKey kk.desc)<| BJ (I5 j)<| match x with
  | .v (.c .nilm)=>match ok with
   | true=>k ⟨.t [V1.Aa (AR j.desc) j.zc,.d (.bool false)],[],[]⟩
   | false=>k ⟨.v (V1.Aa (AR j.desc) j.zc),[],[]⟩
  | _=>False
 | _=>False
def YG:List V1→Nat→Option V1
 | [],_=>none
 | x::r,n=>match n with
  | 0=>some x
  | m+1=>YG r m
def Ew (x:AV) (i:Nat) (k:Out→Prop):Prop:=
 match x with
 | .t xs=>match YG xs i with
  | some y=>k ⟨.v y,[],[]⟩
  | none=>False
 | _=>False
def Ex (ti:Types) (src dst:TypeId) (x:AV) (k:Out→Prop):Prop:=
 Ao ti src fun a=>Ao ti dst fun b=>match a.desc,b.desc with
 | .int _,.int q=>DD x fun _ n=>∃z,q.wrap n=z∧k ⟨.v (.d (.int q z)),[],[]⟩
 | _,_=>False
def Ag (M:Aw) (ti:Types) (o:Oper) (fresh:Nat) (s:AL) (h:Heap) (k:Out→Prop):Prop:=
 match o.op with
 | .move x | .assign x=>k ⟨AX ti s o.type x,[],[]⟩
 | .pick c a b=>PB (AX ti s 0 c) fun q=>k ⟨Zd q (AX ti s o.type a) (AX ti s o.type b),[],[]⟩
 | .alloc t=>Ao ti t fun i=>k ⟨ptrTo fresh,[],[(.loc fresh,.cells i.zc)]⟩
 | .box t x=>DR (AX ti s t x) fun y=>k ⟨ptrTo fresh,[],[(.loc fresh,.cells y.cells)]⟩
 | .load t x=>D7 ti t (AX ti s 0 x) h k
 | .store t x y=>HE ti t (AX ti s 0 x) (AX ti s t y) h k
 | .fieldAddr t x f=>HF ti t (AX ti s 0 x) f k
 | .indexAddr t x i=>Eu ti t (AX ti s t x) (AX ti s 3 i) k
 | .nilCheck x=>match AX ti s 0 x with
  | .v (.c (.ptr i q))=>k ⟨.v (.c (.ptr i q)),[],[]⟩
  | _=>False
 | .binOp op t x y _=>QN M ti op t (AX ti s t x) (AX ti s t y) k
 | .unOp op _ x=>XG op (AX ti s o.type x) k
 | .makeFunc fn first captured=>match fn,first.toList with
  | .func f,[]=>match Cn (captured.toList.map (AX ti s 0))with
   | some l=>k ⟨.v (.c (.fn f l)),[],[]⟩
   | none=>False
  | .func f,[x]=>(match captured.toList,AX ti s 0 x with
   | [],.v (.c (.ptr i 0))=>k ⟨.v (.c (.bm f i)),[],[]⟩
   | _,_=>False)
  | _,_=>False
 | .build t parts=>HH ti s t parts.toList k
 | .buildSlice t len parts=>∃c:Bool,match c with
  | true=>DE ti s t len parts.toList k
  | false=>DZ ti s t len parts.toList fresh k
 | .lookup t x i ok=>F0 ti t (AX ti s t x) (AX ti s 0 i) ok k
 | .slice t x lo hi mx=>HI M ti s t (AX ti s t x) lo hi mx k
 | .index t x i=>Fy ti t (AX ti s t x) (AX ti s 3 i) k
 | .field t x f=>Fz ti t (AX ti s t x) f k
 | .extract x i=>Ew (AX ti s 0 x) i k
 | .convert a b x=>Ex ti a b (AX ti s a x) k
 | .call c=>match c.callee with
  | .builtin .len=>match c.args.toList,c.argTypes.toList with
   | [x],[t]=>Mp M ti t (AX ti s t x) k
   | _,_=>False
  | .builtin .append=>match c.args.toList,c.argTypes.toList with
   | [x,y],[t,t']=>BJ (Nat.beq t t')<| Fx M ti t (AX ti s t x) (AX ti s t y) fresh h k
   | _,_=>False
  | .value f=>HG M (AX ti s 0 f) (Bn ti s c.args.toList c.argTypes.toList) fresh h k
  | _=>False
 | _=>False
end Go.AM
namespace Go.AM
open Go Go.RowKit
section
variable {C:Cx}{F:Nat→Prop}{s:AL}{h:Heap}{g:AP}{a:Act}{w:World}
theorem AY.put {dst:Option Tmp}{v:AV}{u:Value}(R:AY C F s h g a w) (hd:∀d,dst=some d→d<C.nt)
  (hr:An w (Av (zone g h) C.X) g h v u):AY C F (CR s dst v) h g (a.put dst u) w:=by
 cases dst with
 | none=>exact R
 | some d=>
  have hlt:=hd d rfl
  have hdf:DY w (Av (zone g h) C.X) g C.M.cl (CR s (some d) v DT) a.defers C.D:=by
   cases hc:C.M.cl with
   | false=>exact R.marks hc
   | true=>
    have hne:¬DT=d:=fun e=>absurd (Nat.lt_of_lt_of_le hlt (C.hcl hc).1) (by simp_all)
    simp only[CR,if_neg hne];have:=R.defers;simp_all
  refine {R with size:=by simpa [Act.put] using R.size,defers:=hdf,slots:=fun t=>?_}
  simp only[CR,Act.put]
  by_cases ht:t=d
  ·subst ht;have:(a.tmps.setIfInBounds t u).getD t undef=u:=by simp[R.size,hlt]
   grind
  ·have:(a.tmps.setIfInBounds d u).getD t undef=a.tmps.getD t undef:=by
    simp[Ne.symm ht]
   rw[this,if_neg ht];exact R.slots t
theorem AY.Af {F':Nat→Prop}(R:AY C F s h g a w) (hF:∀n,F' n→F n):AY C F' s h g a w:=
 {R with free:=fun n hn=>R.free n (hF n hn)}
theorem XI {X:Ak}(R:DA w X g h) {b o:Nat}(hz:zone g h b o):b<w.heap.size:=by
 obtain⟨i,ob,hi,h1⟩:=hz;exact (R.objs i ob hi).lt h1.HA
theorem AY.alloc (R:AY C F s h g a w) {n:Nat}(hf:F n) (c:Array Value) (e:TypeId) (cs:List CV) (hs:c.size=cs.length)
  (hr:∀(j:Nat) x u,cs[j]?=some x→c[j]?=some u→BB w (Av (zone g h) C.X) g h x u):
  AY C (fun k=>F k∧k≠n) s (AK h (.loc n) (.cells cs)) (Ap g (.loc n) (.pointer (some ⟨w.heap.size,0,none⟩))) a (w.alloc (.cells c e)):=by
 have hX:∀b o,C.X b o→b<w.heap.size:=fun b o hx=>Nat.lt_of_lt_of_le (R.xs b o hx) R.frame.size
 obtain⟨hgn,hhn⟩:=R.free n hf
 have hne:∀{i:Id} {v:Value},g i=v→v≠undef→i≠ .loc n:=by
  grind
 have E:HC w (Av (zone g h) C.X) g h (w.alloc (.cells c e)) (Av (zone (Ap g (.loc n) (.pointer (some ⟨w.heap.size,0,none⟩))) (AK h (.loc n) (.cells cs))) C.X)
   (Ap g (.loc n) (.pointer (some ⟨w.heap.size,0,none⟩))) (AK h (.loc n) (.cells cs)):=by
  have now:∀{i:Id},isTu (g i)→i≠ .loc n:=by
   rintro i hi rfl
   rw[hgn]at hi;exact BT hi
  refine⟨fun b o u hu hz=>?_,fun i b hb=>?_,fun i q hq=>?_,fun i hi=>?_,fun i k sz e' hi hk=>?_,fun i hi=>by simpa [Ap,now hi] using hi,
   fun i hi hk=>⟨by simpa [AK,now hi] using hk,by simp[Ap,now hi]⟩⟩
  ·have hlt:=World.block_lt_of_cell? w ⟨b,o,none⟩ hu;refine⟨(World.cell?_alloc_lt w _ ⟨b,o,none⟩ hlt).trans hu,?_⟩
   rintro (⟨i,ob,hi,h1⟩ | hx)
   ·by_cases hin:i= .loc n
    ·subst hin;simp only[AK,if_true,Option.some.injEq]at hi;subst hi;have:=Bc.ptr (q:=w.heap.size) (o:=0) (by simpa [Ap,BS] using h1)
     simp_all
    ·simp only[AK,Ap,if_neg hin]at hi h1;exact hz (.inl ⟨i,ob,hi,h1⟩)
   ·exact hz (.inr hx)
  ·exact if_neg (hne hb (by simp[undef]))
  ·exact if_neg (hne hq (by simp[undef]))
  ·have:i≠ .loc n:=by rintro rfl;rw[hgn]at hi;exact hi
   simpa [Ap,this] using hi
  ·have:i≠ .loc n:=by rintro rfl;rw[hgn]at hi;exact hi
   refine⟨k,Nat.le_refl _,by simpa [AK,this] using hk,fun _=>by simp[Ap,this]⟩
 refine R.step (F':=fun k=>F k∧k≠n) (fun i=>i= .loc n) E ?_ ?_ ?_ ?_ ?_ ?_ ?_ ?_
 ·exact⟨rfl,rfl,rfl,by simp,fun b hb _=>Below.heap_alloc w _ b hb,fun b o u hu _=>(World.cell?_alloc_lt w _ ⟨b,o,none⟩ (World.block_lt_of_cell? w ⟨b,o,none⟩ hu)).trans hu⟩
 ·intro i hi;simp[AK,Ap,hi]
 ·intro i o b _ hi hb;exact Below.heap_alloc w _ b ((R.heap.objs i o hi).lt hb)
 ·rintro i o rfl ho
  simp[AK]at ho;subst ho;exact⟨w.heap.size,c,e,by simp[Ap],heap_alloc_new w _,hs,fun j x u hx hu=>E.La (hr j x u hx hu)⟩
 ·rintro i o b p rfl ho hb
  simp[AK]at ho;subst ho;have:=Bc.ptr (q:=w.heap.size) (o:=0) (by simpa [Ap,BS] using hb)
  exact .inr (by omega)
 ·simp_all
 ·simp_all
 ·rintro k ⟨hk,hkn⟩
  have:=R.free k hk;simp[Ap,AK,hkn,this]
theorem AY.store (R:AY C F s h g a w) {id:Id}{cs cs':List CV}(hid:h id=some (.cells cs)) {b:Nat}{c c':Array Value}{e:TypeId}
  (hg:g id= .pointer (some ⟨b,0,none⟩)) (hb:w.heap[b]?=some (.cells c e (0,0))) (hs:c'.size=cs'.length)
  (hr:∀(j:Nat) x u,cs'[j]?=some x→c'[j]?=some u→BB w (Av (zone g h) C.X) g h x u):
  AY C F s (AK h id (.cells cs')) g a (w.setRow b c'):=by
 have hzb:∀o,zone g h b o:=fun o=>⟨id,_,hid,by simp[BS,hg,Bc,blk]⟩
 have hz1:∀i ob b' o,AK h id (.cells cs') i=some ob→BS (g i) ob b' o→zone g h b' o:=by
  intro i ob b' o hi h1
  by_cases hin:i=id
  ·subst hin;simp[AK]at hi;subst hi;exact⟨i,_,hid,h1⟩
  ·simp only[AK,if_neg hin]at hi;exact⟨i,ob,hi,h1⟩
 have hcell:∀b' o u,w.cell? ⟨b',o,none⟩=some u→¬zone g h b' o→(w.setRow b c').cell? ⟨b',o,none⟩=some u:=by
  intro b' o u hu hz;have hne:b'≠b:=by grind
  exact (cell_setRow_other w b c' ⟨b',o,none⟩ hne).trans hu
 have E:HC w (Av (zone g h) C.X) g h (w.setRow b c') (Av (zone g (AK h id (.cells cs'))) C.X) g (AK h id (.cells cs')):=by
  refine⟨fun b' o u hu hz=>⟨hcell b' o u hu (fun hz'=>hz (.inl hz')),?_⟩,fun _ _ _=>rfl,fun _ _ _=>rfl,fun _ hi=>hi,fun i k sz e' _ hk=>?_,fun _ hi=>hi,fun i hi hk=>?_⟩
  ·rintro (⟨i,ob,hi,h1⟩ | hx)
   ·exact hz (.inl (hz1 i ob b' o hi h1))
   ·exact hz (.inr hx)
  ·have hin:i≠id:=by rintro rfl;simp[AK]at hk
   exact⟨k,Nat.le_refl _,by simpa [AK,hin] using hk,fun _=>rfl⟩
  ·have hin:i≠id:=by rintro rfl;simp[AK,isLive]at hk
   exact⟨by simpa [AK,hin] using hk,rfl⟩
 refine R.step (fun i=>i=id) E ?_ ?_ ?_ ?_ ?_ ?_ ?_ ?_
 ·exact⟨rfl,rfl,rfl,by simp,fun b' _ hz=>setRow_other w b b' c' (fun e=>hz 0 (e▸hzb 0)),hcell⟩
 ·intro i hi;simp[AK,hi]
 ·intro i o b' hi ho hb';refine setRow_other w b b' c' ?_
  rintro rfl
  exact hi (R.heap.sep i id o _ b' ho hid hb' (by simp[FF,hg,Bc,blk]))
 ·rintro i o rfl ho
  simp[AK]at ho;subst ho;exact⟨b,c',e,hg,setRow_heap w b c c' e _ hb,hs,fun j x u hx hu=>E.La (hr j x u hx hu)⟩
 ·rintro i o b' p rfl ho hb'
  simp[AK]at ho;subst ho;exact .inl ⟨_,_,rfl,hid,hb'⟩
 ·simp_all
 ·rintro j rfl
  exact .refl _
 ·intro k hk;obtain⟨h1,h2⟩:=R.free k hk;have hin:Id.loc k≠id:=by grind
  exact⟨h1,by simp[AK,hin,h2]⟩
end
def BN (C:Cx) (o:Oper) (fresh:Nat) (s:AL) (h:Heap) (out:Out):Prop:=
 ∀(F:Nat→Prop) (σs:AL) (σh:Heap) a w Q,Rel C F σs σh a w→(∀t,Operand.tmp t∈o.op.operands.toList→σs t=s t)→(∀i∈out.rd,σh i=h i)→
  (∀k,k<32→F (fresh+k))→(∀d,o.dst=some d→d<C.nt)→
  o.wp C.P a w (fun a' w'=>Rel C (fun n=>F n∧¬(fresh≤n∧n<fresh+32)) (CR σs o.dst out.val) (Az σh out.wr) a' w') Q
theorem AE {C:Cx}{o:Oper}{fresh:Nat}{s:AL}{h:Heap}{v:AV}{rd:List Id}
  (hr:∀F σs σh g a w,AY C F σs σh g a w→(∀t,Operand.tmp t∈o.op.operands.toList→σs t=s t)→(∀i∈rd,σh i=h i)→
   ∃u,(execOp a.eval o).run C.P w= .ok (.value u) w∧An w (Av (zone g σh) C.X) g σh v u):BN C o fresh s h ⟨v,rd,[]⟩:=by
 rintro F σs σh a w Q ⟨g,R⟩ ho hrd hF hd
 obtain⟨u,hu,hv⟩:=hr F σs σh g a w R ho hrd;unfold Oper.wp;rw[hu];exact⟨g,(R.put hd hv).Af (fun n hn=>hn.1)⟩
theorem Mr {C:Cx}{o:Oper}{fresh:Nat}{s:AL}{h:Heap}{cs:List CV}
  (hr:∀F σs σh g a w,AY C F σs σh g a w→(∀t,Operand.tmp t∈o.op.operands.toList→σs t=s t)→
   ∃c e,(execOp a.eval o).run C.P w= .ok (.value (.pointer (some ⟨w.heap.size,0,none⟩))) (w.alloc (.cells c e))∧c.size=cs.length∧
    ∀(j:Nat) x u,cs[j]?=some x→c[j]?=some u→BB w (Av (zone g σh) C.X) g σh x u):BN C o fresh s h ⟨ptrTo fresh,[],[(.loc fresh,.cells cs)]⟩:=by
 rintro F σs σh a w Q ⟨g,R⟩ ho hrd hF hd
 obtain⟨c,e,hu,hs,hc⟩:=hr F σs σh g a w R ho;unfold Oper.wp;rw[hu];have R':=R.alloc (n:=fresh) (hF 0 (by omega)) c e cs hs hc
 refine⟨_,(R'.put hd (v:=ptrTo fresh) ⟨⟨w.heap.size,by simp[Ap]⟩,by simp[Ap,CF]⟩).Af (fun n hn=>⟨hn.1,fun e=>hn.2 (by omega)⟩)⟩
theorem U9 {w:World}{Z:Ak}{g:AP}{h:Heap}(ti:Types) (t:TypeId) (v:Value):An w Z g h (Zc (U7 ti t v)) v:=by
  unfold U7
  split<;>first
    | exact AZ.int _ _
    | exact AZ.bool _
    | exact AZ.str _
    | exact rfl
    | (split
       · split
         · split<;>exact rfl
         · exact rfl
       · exact rfl)
    | exact⟨rfl,rfl⟩
    | exact trivial
theorem tO {w:World}{Z:Ak}{g:AP}{h:Heap}{c x:CV}{v:Value}(hz:zc1 c v=some x):BB w Z g h x v:=by
 unfold zc1 at hz;split at hz
 ·cases hz;exact rfl
 ·cases hz;exact⟨AZ.int _ _,rfl⟩
 ·cases hz;exact⟨AZ.bool _,rfl⟩
 ·cases hz;exact⟨AZ.str _,rfl⟩
 ·cases hz;exact rfl
 ·cases hz
theorem Ze {w:World}{Z:Ak}{g:AP}{h:Heap}:∀{cs xs:List CV}{vs:List Value},zcs cs vs=some xs→vs.length=xs.length∧∀(j:Nat) x u,xs[j]?=some x→vs[j]?=some u→BB w Z g h x u
 | [],xs,[],hz=>by
  cases hz
  simp_all
 | c::cs,xs,v::vs,hz=>by
  unfold zcs at hz;split at hz
  ·rename_i x0 h0;split at hz
   ·rename_i xs0 h1;cases hz
    obtain⟨k1,k2⟩:=Ze (w:=w) (Z:=Z) (g:=g) (h:=h) h1;refine⟨by simp[k1],fun j x u hx hu=>?_⟩
    match j with
    | 0=>simp at hx hu;subst hx;subst hu;exact tO h0
    | j+1=>grind
   ·cases hz
  ·cases hz
 | [],_,_::_,hz=>by cases hz
 | _::_,_,[],hz=>by cases hz
theorem VA {w:World}{Z:Ak}{g:AP}{h:Heap}(ti:Types) (t:TypeId) (v:Value):An w Z g h (U8 ti t v) v:=by
 unfold U8;split
 ·split
  ·split
   ·rename_i cs hcs;obtain⟨k1,k2⟩:=Ze (w:=w) (Z:=Z) (g:=g) (h:=h) hcs;exact (Ah.Aa (by simpa using k1) (fun j c u hc hu=>k2 j c u hc (by simpa using hu))).1 rfl
   ·trivial
  ·trivial
 ·exact U9 ti t v
theorem AI {C:Cx}{F:Nat→Prop}{s σs:AL}{σh:Heap}{g:AP}{a:Act}{w:World}(ti:Types) (t:TypeId) (x:Operand)
  (R:AY C F σs σh g a w) (hx:∀k,x= .tmp k→σs k=s k):An w (Av (zone g σh) C.X) g σh (AX ti s t x) (a.eval x):=by
 cases x with
 | tmp k=>
  have:=R.slots k;rw[hx k rfl]at this;exact this
 | const v=>exact VA ti t v
 | func f=>exact⟨rfl,by simp⟩
 | global q=>trivial
section
variable {C:Cx}{ti:Types}{o:Oper}{fresh:Nat}{s:AL}{h:Heap}{k:Out→Prop}
section
variable {v:Value}
theorem BX {P:Program}{w w':World}{q:Sem Value}(h:q.run P w= .ok v w'):
  (do pure (Next.value (←q)):Sem Next).run P w= .ok (.value v) w':=by
 simp[h]
theorem AF {t:TypeId}{k:TI→Prop}:Ao ti t k↔∃i,ti t=some i∧k i:=by
 unfold Ao;split<;>simp_all
variable {x:AV}
theorem Cb {k:V1→Prop}:DR x k↔∃y,x= .v y∧k y:=by
 unfold DR;split<;>simp_all
theorem PF {k:Bool→Prop}:PB x k↔∃y,x= .v (.d (.bool y))∧k y:=by
 unfold PB;split<;>simp_all
theorem CH {k:IntKind→Int→Prop}:DD x k↔∃q n,x= .v (.d (.int q n))∧k q n:=by
 unfold DD;grind
theorem En {k:Bool→Nat→List D→Prop}(hk:HD x k):
  ∃ag sz rows,(∀{w:World} {Z:Ak} {g:AP} {h:Heap} {v:Value},An w Z g h x v→AZ w Z (.list ag sz rows) v)∧k ag sz rows:=by
 unfold HD at hk;split at hk
 ·exact⟨_,_,_,fun r=>r,hk⟩
 ·exact⟨_,_,_,fun r=>r.1,hk⟩
 ·exact⟨_,_,_,fun r=>by rw[show _=_ from r];exact Fv _ _,hk⟩
 ·exact⟨_,_,_,fun r=>r.1,hk⟩
 ·exact hk.elim
variable {Z:Ak}
theorem QQ {w:World}{g:AP}{h:Heap}{b:Bool}(r:An w Z g h (.v (.d (.bool b))) v):v= .bool b:=by
 cases (show AZ w Z (.bool b) v from r);rfl
theorem Ey {w:World}{g:AP}{h:Heap}{q:IntKind}{n:Int}(r:An w Z g h (.v (.d (.int q n))) v):v= .int q n:=by
 cases (show AZ w Z (.int q n) v from r);rfl
theorem SP {w:World}{g:AP}{h:Heap}{b:ByteArray}(r:An w Z g h (.v (.d (.str b))) v):v= .string b:=by
 cases (show AZ w Z (.str b) v from r);rfl
theorem XJ (x:Operand) (ho:o.op= .move x∨o.op= .assign x):BN C o fresh s h ⟨AX ti s o.type x,[],[]⟩:=by
 refine AE fun F σs σh g a w R hs _=>⟨a.eval x,?_,AI ti o.type x R (fun t ht=>hs t ?_)⟩
 ·rcases ho with ho | ho<;>simp[execOp,ho]
 ·subst ht;rcases ho with ho | ho<;>simp[ho,Op.operands]
theorem nD (c x y:Operand) (ho:o.op= .pick c x y) {q:Bool}(hq:AX ti s 0 c= .v (.d (.bool q))):
  BN C o fresh s h ⟨Zd q (AX ti s o.type x) (AX ti s o.type y),[],[]⟩:=by
 refine AE fun F σs σh g a w R hs _=>?_
 have hc:=AI ti 0 c R (s:=s) (fun t ht=>hs t (by subst ht;simp[ho,Op.operands]))
 rw[hq]at hc;have hc:=QQ hc;refine⟨if q then a.eval x else a.eval y,?_,?_⟩
 ·simp[execOp,ho,hc,asBool]
 ·cases q
  ·exact AI ti o.type y R (fun t ht=>hs t (by subst ht;simp[ho,Op.operands]))
  ·exact AI ti o.type x R (fun t ht=>hs t (by subst ht;simp[ho,Op.operands]))
theorem EE {w:World}{g:AP}{h:Heap}{c:CV}{u:Value}(q:SK c u):BB w Z g h c u:=by
 revert q;unfold SK;split<;>intro hz
 ·rw[hz.1,hz.2];exact⟨.int _ _,rfl⟩
 ·rw[hz];exact⟨.bool _,rfl⟩
 ·rw[hz];exact⟨.str _,rfl⟩
 ·exact rfl
 ·exact rfl
 ·exact rfl
 ·exact rfl
 ·exact hz
 ·exact hz.elim
theorem Zf (hti:Ay C.P ti) (t:TypeId) (ho:o.op= .alloc t) {i:TI}(hi:ti t=some i):BN C o fresh s h ⟨ptrTo fresh,[],[(.loc fresh,.cells i.zc)]⟩:=by
 refine Mr fun F σs σh g a w R hs=>?_
 obtain⟨hu,ii,h1,h2,h3,h4,h5,h6,h7⟩:=hti t i hi;refine⟨i.zero.cells,t,?_,by rw[h5,h6],fun j c u hc hu=>?_⟩
 ·simp[execOp,ho,Instr.alloc,zeroValue,typeInfo,h1,h4,newVar,newRow]
 ·have:=h7 j c u hc hu;revert this;unfold SK;split<;>intro hz
  ·rw[hz.1,hz.2];exact⟨.int _ _,rfl⟩
  ·rw[hz];exact⟨.bool _,rfl⟩
  ·rw[hz];exact⟨.str _,rfl⟩
  ·exact rfl
  ·exact rfl
  ·exact rfl
  ·exact rfl
  ·exact hz
  ·exact hz.elim
theorem tP (t:TypeId) (x:Operand) (ho:o.op= .box t x) {y:V1}(hy:AX ti s t x= .v y):BN C o fresh s h ⟨ptrTo fresh,[],[(.loc fresh,.cells y.cells)]⟩:=by
 refine Mr fun F σs σh g a w R hs=>?_
 have hx:=AI ti t x R (s:=s) (fun k hk=>hs k (by subst hk;simp[ho,Op.operands]))
 rw[hy]at hx;obtain⟨h1,h2⟩:=Ah.cells hx;exact⟨(a.eval x).cells,t,by simp[execOp,ho,Instr.box,newVar,newRow],h1,h2⟩
end
end
end Go.AM
namespace Go.AM
open Go Go.RowKit
theorem Zg (v:Value) (l:List Nat) (P:Nat→Prop) (hP:∀b,P b→b∈l):∃gv,isTu gv∧gval gv=v∧∀b,Bc gv b↔P b:=by
 classical
 let l':=l.filter (fun b=>decide (P b))
 refine⟨.tuple (v::l'.map (fun b:Nat=>Value.int .i64 (b:Int))).toArray,⟨_,v,rfl,by simp⟩,by simp[gval],fun b=>⟨?_,fun hb=>?_⟩⟩
 ·rintro (h | ⟨vs,h,k,hk⟩)
  ·simp[blk]at h
  grind
 ·have hm:b∈l':=by simp[l',hP b hb,hb]
  obtain⟨k,hk⟩:=List.mem_iff_getElem?.1 hm;exact .inr ⟨_,rfl,k,by simp[hk]⟩
theorem Bc.fin (gv:Value):∃l:List Nat,∀b,Bc gv b→b∈l:=by
 cases hg:gv with
 | tuple vs=>
  refine⟨vs.toList.filterMap (fun v=>match v with | .int _ n=>some n.toNat | _=>none),fun b hb=>?_⟩
  rcases hb with h | ⟨vs',h,k,hk⟩
  ·simp[blk]at h
  ·cases h
   refine List.mem_filterMap.2 ⟨.int .i64 (b:Int),?_,by simp⟩
   grind
 | _=>
  refine⟨(blk gv).toList,fun b hb=>?_⟩
  rcases hb with h | ⟨vs',h,_⟩
  ·rw[hg];simpa using h
  ·cases h
theorem Bc.mJ {g:AP}(l:List Id):∃m:List Nat,∀i∈l,∀b,Bc (g i) b→b∈m:=by
 induction l with
 | nil=>exact⟨[],by simp⟩
 | cons i l ih=>
  obtain⟨m,hm⟩:=ih;obtain⟨m',hm'⟩:=Bc.fin (g i);refine⟨m'++m,fun j hj b hb=>?_⟩
  grind
section
variable {w:World}{x:D}{v:Value}{S:Nat→Prop}
theorem B6.BR (h:B6 w x v S):v.oneCell'=true:=by
 cases h with
 | con k ag sz rows x v xs U T S hcon hsz hfit hx=>exact hx.BR
 | _=>rfl
theorem B6.isAgg (h:B6 w x v S):x.isAgg=false:=by
 cases h with
 | con k ag sz rows x v xs U T S hcon=>
  cases x<;>first | rfl | simp[D.con]at hcon
 | _=>rfl
def EF:D→Bool
 | .list ..=>true
 | .box ..=>true
 | .map ..=>true
 | _=>false
theorem PG:EF x=true↔∃k ag sz rows,x.con=some (k,ag,sz,rows):=by
 cases x<;>simp[EF,D.con]
theorem Lb (h:EF x=false):x.con=none:=by
 cases x<;>first | rfl | simp[EF]at h
variable {k:Kd}{ag:Bool}{sz:Nat}{rows:List D}
theorem SQ:Jl k ag sz rows=some x↔x.con=some (k,ag,sz,rows):=by
 constructor
 ·intro h;cases k with
  | row=>simp[Jl]at h;subst h;rfl
  | flat=>simp[Jl]at h
  | fmap _=>simp[Jl]at h
  | map=>
   cases ag with
   | true=>simp[Jl]at h;subst h;rfl
   | false=>simp[Jl]at h
  | box=>
   cases ag with
   | false=>simp[Jl]at h
   | true=>
    simp only[Jl]at h;split at h
    ·split at h
     ·rename_i hb;cases h
      simp only[D.con,Nat.eq_of_beq_eq_true hb]
     ·cases h
    ·cases h
 ·intro h;cases x<;>simp[D.con]at h
  all_goals
   obtain⟨rfl,rfl,rfl,rfl⟩:=h;simp[Jl]
theorem Zh (h:x.con=some (k,ag,sz,rows)):k.IT=false:=by
 cases x<;>simp[D.con]at h
 all_goals (obtain⟨rfl,_⟩:=h;rfl)
theorem Ms {Z:Ak}{g:AP}{h:Heap}{gv:Value}(hc:Jl k ag sz rows=some x):
  BL w Z g h (.tree k ag sz rows none) gv↔isTu gv∧B6 w x (gval gv) (Bc gv):=by
 rw[SQ]at hc;have kf:=Zh hc;constructor
 ·rintro⟨ht,h0,hf,xs,hx,_,U,T,h1,h2,h3,h4,h5⟩
  exact⟨ht,.con k ag sz rows x _ xs U T _ hc h0 hf hx (fun i r j c hr hj=>(h1 i r j c (fun _ _ h=>by cases h) hr hj).1) (fun i r j c hr hj=>(Cm.own kf).1 (h1 i r j c (fun _ _ h=>by cases h) hr hj).2)
   (fun i j b hb=>(h2 i j b hb).2) h3 h4 h5⟩
 ·rintro⟨ht,hr⟩
  generalize hgv:gval gv=v at hr;generalize hS0:Bc gv=S at hr;cases hr with
  | con k' ag' sz' rows' _ _ xs U T _ hcon hsz hfit hx hU hr hT hd1 hd2 hS=>
   rw[hc]at hcon;cases hcon
   subst hgv;subst hS0;exact⟨ht,hsz,hfit,xs,hx,(fun _ _ h=>by cases h),U,T,fun i r j c _ h1 h2=>⟨hU i r j c h1 h2,(Cm.own kf).2 (hr i r j c h1 h2)⟩,fun i j b hb=>⟨fun _ _ h=>(by cases h),hT i j b hb⟩,hd1,hd2,hS⟩
  | _=>cases hc
theorem B6.toD {Z:Ak}(r:B6 w x v S):(∀b o,S b→¬Z b o)→AZ w Z x v:=by
 induction r with
 | int k n=>exact fun _=>.int k n
 | bool b=>exact fun _=>.bool b
 | str s=>exact fun _=>.str s
 | nil=>exact fun _=>.nil
 | con k ag sz rows x v xs U T S hcon hsz hfit hx hU hr hT hd1 hd2 hS ih=>
  intro hz;cases x with
  | box cs=>exact .box cs v hx.BR
  | map sz rows=>exact .map sz rows v hx.BR
  | list ag' sz' rows'=>
   cases hcon
   obtain⟨e,hx⟩:=hx;rcases hx.2 with⟨hv,hn⟩ | ⟨q,cap,cur,hv,hg,hh,hnc,hcm,hcs,htake⟩
   ·have:rows=[]:=List.eq_nil_of_length_eq_zero hn;subst this;rw[hv];exact .list ag sz [] none 0 0 0 (fun _ _=>undef) (Nat.le_refl _) (Nat.zero_le _) (by simp) (by simp) (by simp) (by simp)
   ·rw[hv];have hq:S q:=(hS q).2 (.inl (by rw[hv];rfl))
    refine .list ag sz rows (some ⟨q,0,none⟩) cap q 0 U hnc hcm hfit (fun _=>rfl) (fun i r j c h1 h2=>⟨?_,hz q _ hq⟩) (fun i r j c h1 h2=>ih i r j c h1 h2 fun b o hb=>hz b o ((hS b).2 (.inr ⟨i,j,hb⟩)))
    have h3:=hx.cells (g:=q) (by rw[hv];rfl) _ _ (hU i r j c h1 h2)
    have e1:(⟨q,0,none⟩:Addr).add (i*sz+j)=⟨q,0+(i*sz+j),none⟩:=by unfold Addr.add;split<;>simp_all
    grind
  | _=>simp[D.con]at hcon
theorem Holds.block {n:Nat}{xs:List Value}(h:Holds w k sz v n xs) (hk:k.isM=false) (hn:0<n):
  ∃b c e,blk v=some b∧w.heap[b]?=some (.cells c e (0,0))∧n*sz≤c.size∧c.toList.take (n*sz)=xs∧∀(c':Array Value),c'.size=c.size→Holds (w.setRow b c') k sz v n (c'.toList.take (n*sz)):=by
 cases k with
 | map=>cases hk
 | fmap _=>cases hk
 | row=>
  obtain⟨e,h1,h2⟩:=h;rcases h2 with⟨_,h2⟩ | ⟨q,cap,cur,hv,hg,hh,hnc,hcm,hcs,htake⟩
  ·omega
  ·have hle:n*sz≤cur.size:=by grind
   refine⟨q,cur,e,by rw[hv];rfl,hh,hle,htake,fun c' hc'=>⟨e,?_,.inr ⟨q,cap,c',hv,hg,setRow_heap w q cur c' e _ hh,hnc,hcm,by rw[hc'];exact hcs,rfl⟩⟩⟩
   simp;omega
 | flat=>
  obtain⟨e,h1,h2⟩:=h;rcases h2 with⟨_,h2⟩ | ⟨q,cap,cur,hv,hg,hh,hnc,hcm,hcs,htake⟩
  ·omega
  ·have hle:n*sz≤cur.size:=by grind
   refine⟨q,cur,e,by rw[hv];rfl,hh,hle,htake,fun c' hc'=>⟨e,?_,.inr ⟨q,cap,c',hv,hg,setRow_heap w q cur c' e _ hh,hnc,hcm,by rw[hc'];exact hcs,rfl⟩⟩⟩
   simp;omega
 | box=>
  obtain⟨rfl,b,c,e,hv,hh,hc,hs⟩:=h;refine⟨b,c,e,by rw[hv];rfl,hh,by omega,by rw[←hc,List.take_of_length_le];simp;omega,fun c' hc'=>⟨rfl,b,c',e,hv,setRow_heap w b c c' e _ hh,?_,by omega⟩⟩
  rw[List.take_of_length_le];simp;omega
theorem Holds.cell {n:Nat}{xs:List Value}(h:Holds w k sz v n xs) (hk:k.isM=false) {b:Nat}(hb:blk v=some b) {i:Nat}{u:Value}(hi:xs[i]?=some u):w.cell? ⟨b,i,none⟩=some u:=by
 have hlt:=(List.getElem?_eq_some_iff.1 hi).1;have hl:=h.len
 have hn:0<n:=by
  grind
 obtain⟨b',c,e,h1,h2,h3,h4,_⟩:=h.block hk hn;rw[hb]at h1;cases h1
 rw[←h4,List.getElem?_take]at hi;split at hi
 ·simpa [World.cell?,h2] using hi
 ·cases hi
end
end Go.AM
namespace Go.AM
open Go Go.RowKit
def CQ (fresh:Nat):Nat→List D→List CV
 | _,[]=>[]
 | c,d::ds=>(match d with
  | .list _ _ _=>.ow (.loc (fresh+c))
  | .box _=>.ow (.loc (fresh+c))
  | .map _ _=>.ow (.loc (fresh+c))
  | .nil=>.nilp
  | d=>.d d)::CQ fresh (c+1) ds
def CI (fresh:Nat):Nat→List D→List (Id×AD)
 | _,[]=>[]
 | c,d::ds=>match d with
  | .list ag sz rows=>(.loc (fresh+c),.tree .row ag sz rows none)::CI fresh (c+1) ds
  | .box cs=>(.loc (fresh+c),.tree .box true cs.length [.agg cs] none)::CI fresh (c+1) ds
  | .map sz rows=>(.loc (fresh+c),.tree .map true sz rows none)::CI fresh (c+1) ds
  | _=>CI fresh (c+1) ds
def Mt (f:CV→(D→List Id→Prop)→Prop):List CV→(List D→List Id→Prop)→Prop
 | [],K=>K [] []
 | c::r,K=>f c fun d is=>Mt f r fun ds js=>K (d::ds) (is++js)
def GU (h:Heap):Nat→CV→(D→List Id→Prop)→Prop
 | 0,_,_=>False
 | n+1,c,K=>match c with
  | .d d=>(match EF d with
   | true=>False
   | false=>K d [])
  | .nilp=>K .nil []
  | .nils ag sz=>(match Nat.blt 0 sz with
   | true=>K (.list ag sz []) []
   | false=>False)
  | .ow j=>(match h j with
   | some (.tree k ag sz rows none)=>(match Jl k ag sz rows with
    | some x=>K x [j]
    | none=>False)
   | _=>False)
  | .ptr j o=>(match o with
   | 0=>(match h j with
    | some (.cells (c::cs))=>Mt (GU h n) (c::cs) fun ds is=>K (.box ds) (j::is)
    | _=>False)
   | _=>False)
  | _=>False
def Mu (h:Heap) (cs:List CV) (K:List D→List Id→Prop):Prop:=Mt (GU h 3) cs K
def EW (i:Id):List Id→Bool
 | []=>false
 | j::l=>match Id.beq i j with
  | true=>true
  | false=>EW i l
def nodupB:List Id→Bool
 | []=>true
 | i::l=>match EW i l with
  | true=>false
  | false=>nodupB l
theorem HJ {i:Id}:∀{l:List Id},EW i l=true↔i∈l
 | []=>by simp[EW]
 | j::l=>by
  unfold EW;cases hb:Id.beq i j with
  | true=>simp[Id.beq_iff.1 hb]
  | false=>simp[HJ (l:=l),Id.beq_false.1 hb]
theorem CB:∀{l:List Id},nodupB l=true↔l.Nodup
 | []=>by simp[nodupB]
 | i::l=>by
  unfold nodupB;cases hb:EW i l with
  | true=>simp[HJ.1 hb]
  | false=>
   have:i∉l:=fun h=>by rw[HJ.2 h]at hb;cases hb
   simp[this,CB (l:=l)]
def Aj:List Id→List (Id×AD)
 | []=>[]
 | i::l=>(i,.gone)::Aj l
inductive BU (h:Heap):CV→D→List Id→Prop where
 | d (d:D) (hd:d.con=none):BU h (.d d) d []
 | nilp:BU h .nilp .nil []
 | nils (ag:Bool) (sz:Nat) (hsz:0<sz):BU h (.nils ag sz) (.list ag sz []) []
 | ow (j:Id) (k:Kd) (ag:Bool) (sz:Nat) (rows:List D) (x:D) (hj:h j=some (.tree k ag sz rows none)) (hx:Jl k ag sz rows=some x):BU h (.ow j) x [j]
 | ptr (j:Id) (cs:List CV) (ds:List D) (iss:List (List Id)) (hj:h j=some (.cells cs)) (h0:0<cs.length) (h1:ds.length=cs.length) (h2:iss.length=cs.length)
   (hr:∀(q:Nat) c d is,cs[q]?=some c→ds[q]?=some d→iss[q]?=some is→BU h c d is):BU h (.ptr j 0) (.box ds) (j::iss.flatten)
theorem Kj {h:Heap}{f:CV→(D→List Id→Prop)→Prop}(hf:∀c K,f c K→∃d is,K d is∧BU h c d is):∀{cs:List CV}{K:List D→List Id→Prop},Mt f cs K→
  ∃(ds:List D) (iss:List (List Id)),K ds iss.flatten∧ds.length=cs.length∧iss.length=cs.length∧∀(q:Nat) c d is,cs[q]?=some c→ds[q]?=some d→iss[q]?=some is→BU h c d is
 | [],K,hk=>⟨[],[],hk,rfl,rfl,by simp⟩
 | c::r,K,hk=>by
  obtain⟨d,is,hk,hc⟩:=hf _ _ hk;obtain⟨ds,iss,h1,h2,h3,h4⟩:=Kj hf hk;refine⟨d::ds,is::iss,by simpa using h1,by simp[h2],by simp[h3],fun q c' d' is' g1 g2 g3=>?_⟩
  match q with
  | 0=>simp_all
  | q+1=>grind
theorem PH {h:Heap}:∀(n:Nat) (c:CV) (K:D→List Id→Prop),GU h n c K→∃d is,K d is∧BU h c d is
 | 0,_,_,hk=>hk.elim
 | n+1,c,K,hk=>by
  cases c with
  | d d=>
   unfold GU at hk;cases hl:EF d with
   | true=>simp only[hl]at hk
   | false=>simp only[hl]at hk;exact⟨d,[],hk,.d d (Lb hl)⟩
  | nilp=>exact⟨_,_,hk,.nilp⟩
  | nils ag sz=>
   simp only[GU]at hk;split at hk
   ·rename_i hb;exact⟨_,_,hk,.nils ag sz (by simp_all)⟩
   ·exact hk.elim
  | ow j=>
   simp only[GU]at hk;split at hk
   ·rename_i k ag sz rows hj;split at hk
    ·rename_i x hx;exact⟨_,_,hk,.ow j k ag sz rows x hj hx⟩
    ·exact hk.elim
   ·exact hk.elim
  | ptr j o=>
   simp only[GU]at hk;split at hk
   ·split at hk
    ·rename_i c cs hj;obtain⟨ds,iss,h1,h2,h3,h4⟩:=Kj (fun c K=>PH n c K) hk
     exact⟨_,_,h1,.ptr j (c::cs) ds iss hj (by simp) h2 h3 h4⟩
    ·exact hk.elim
   ·exact hk.elim
  | _=>exact hk.elim
section
variable {h:Heap}
theorem IV {cs:List CV}{K:List D→List Id→Prop}(hk:Mu h cs K):
  ∃(ds:List D) (iss:List (List Id)),K ds iss.flatten∧ds.length=cs.length∧iss.length=cs.length∧∀(q:Nat) c d is,cs[q]?=some c→ds[q]?=some d→iss[q]?=some is→BU h c d is:=
 Kj (fun c K=>PH 3 c K) hk
def B4:AD→Prop
 | .tree _ _ _ _ none=>True
 | .cells _=>True
 | .part ..=>True
 | .fnl ..=>True
 | _=>False
variable {gv:Value}{ob:AD}
theorem B4.zone {b o:Nat}(h:B4 ob) (hb:Bc gv b):BS gv ob b o:=by cases ob<;>first | exact hb | exact h.elim
theorem B4.HA {b:Nat}(h:B4 ob) (hb:Bc gv b):FF gv ob b:=by cases ob<;>first | exact hb | exact h.elim
variable {w:World}
theorem B4.AMy {Z:Ak}{g:AP}{h':Heap}(h:B4 ob) (r:BL w Z g h' ob gv):¬Il gv:=by
 cases ob with
 | tree=>exact fun hs=>Eh hs r.1
 | part=>exact fun hs=>Eh hs r.1
 | fnl=>exact fun hs=>Eh hs r.1
 | cells=>obtain⟨b,c,e,hv,_⟩:=r;rw[hv];exact fun h=>h
 | _=>exact h.elim
theorem BU.whole {c:CV}{d:D}{is:List Id}(q:BU h c d is):∀i∈is,∃ob,h i=some ob∧B4 ob:=by
 induction q with
 | d | nilp | nils=>simp
 | ow j k ag sz rows x hj hx=>
  intro i hi;obtain rfl:i=j:=by simpa using hi
  exact⟨_,hj,trivial⟩
 | ptr j cs ds iss hj h0 h1 h2 hr ih=>
  intro i hi;rcases List.mem_cons.1 hi with rfl | hi
  ·exact⟨_,hj,trivial⟩
  ·obtain⟨is,h3,h4⟩:=List.mem_flatten.1 hi;obtain⟨q,hq⟩:=List.mem_iff_getElem?.1 h3;have hlt:=(List.getElem?_eq_some_iff.1 hq).1;exact ih q cs[q] ds[q] is (by simp) (by simp) hq i h4
theorem Mv {α:Type}{iss:List (List α)}(hn:iss.flatten.Nodup) {q q':Nat}{l l':List α}{x:α}(h:iss[q]?=some l) (h':iss[q']?=some l') (hx:x∈l) (hx':x∈l'):q=q':=by
 induction iss generalizing q q' with
 | nil=>simp at h
 | cons a iss ih=>
  rw[List.flatten_cons,List.nodup_append]at hn;obtain⟨_,hn2,hn3⟩:=hn
  match q,q' with
  | 0,0=>rfl
  | 0,q'+1=>
   simp at h h';subst h;exact absurd rfl (hn3 x hx x (List.mem_flatten.2 ⟨l',List.mem_of_getElem? h',hx'⟩))
  | q+1,0=>
   simp at h h';subst h';exact absurd rfl (hn3 x hx' x (List.mem_flatten.2 ⟨l,List.mem_of_getElem? h,hx⟩))
  | q+1,q'+1=>
   grind
theorem B6.congr {x:D}{v:Value}{S S':Nat→Prop}(r:B6 w x v S) (h:∀b,S b↔S' b):B6 w x v S':=by
 have:S=S':=funext fun b=>propext (h b)
 rw[←this];exact r
theorem BU.rel {X:Ak}{g:AP}(R:DA w X g h) {c:CV}{d:D}{is:List Id}(q:BU h c d is):
  is.Nodup→∀{Z:Ak} {u:Value},BB w Z g h c u→B6 w d u (fun b=>∃i∈is,Bc (g i) b):=by
 induction q with
 | d d hd=>
  rintro _ Z u ⟨hr,ha⟩
  have hs:∀b,(fun _:Nat=>False) b↔∃i∈([]:List Id),Bc (g i) b:=by simp
  cases hr with
  | int k n=>exact (B6.int k n).congr hs
  | bool b=>exact (B6.bool b).congr hs
  | str s=>exact (B6.str s).congr hs
  | nil=>exact B6.nil.congr hs
  | agg=>cases ha
  | _=>cases hd
 | nilp=>
  rintro _ Z u hr
  rw[show u=_ from hr]
  exact B6.nil.congr (by simp)
 | nils ag sz hsz=>
  rintro _ Z u hr
  rw[show u=_ from hr]
  exact .con .row ag sz [] _ _ [] (fun _ _=>undef) (fun _ _ _=>False) _ rfl hsz (by simp) ⟨0,World.ownsRow_nil w 0 0 sz⟩ (by simp) (by simp) (by simp) (by simp) (by simp) (by simp[blk])
 | ow j k ag sz rows x hj hx=>
  rintro _ Z u ⟨_,_,hr⟩
  rw[hr (by rw[hj];rfl)]
  exact ((Ms hx).1 (R.objs j _ hj)).2.congr (by simp)
 | ptr j cs ds iss hj h0 h1 h2 hr ih=>
  rintro hn Z u ⟨⟨b,hb⟩,hu⟩
  obtain⟨b',cc,e,hg,hh,hs,hrel⟩:=R.objs j _ hj;rw[hb]at hg;obtain rfl:b=b':=by simpa using hg
  rw[hb]at hu;have hu:u= .pointer (some ⟨b,0,none⟩):=hu;subst hu;obtain⟨hnj,hnf⟩:=List.nodup_cons.1 hn
  have hz:∀(q:Nat) d,ds[q]?=some d→∃is v,iss[q]?=some is∧cc[q]?=some v∧B6 w d v (fun b=>∃i∈is,Bc (g i) b):=by
   intro q d hd;have hq:=(List.getElem?_eq_some_iff.1 hd).1;have p3:iss[q]?=some iss[q]:=by simp
   refine⟨iss[q],cc[q],p3,by simp,?_⟩
   exact ih q cs[q] _ _ (by simp) hd p3 ((List.sublist_flatten_of_mem (List.mem_of_getElem? p3)).nodup hnf) (hrel q cs[q] cc[q] (by simp) (by simp))
  have hob:∀x∈iss.flatten,∃ob,h x=some ob∧B4 ob:=fun x hx=>BU.whole (.ptr j cs ds iss hj h0 h1 h2 hr) x (List.mem_cons_of_mem _ hx)
  have apart:∀x∈iss.flatten,∀b',Bc (g x) b'→b'≠b:=by
   rintro x hx b' hb' rfl
   obtain⟨ob,o1,o2⟩:=hob x hx;have:=R.sep x j ob _ b' o1 hj (o2.HA hb') (show Bc (g j) b' from by rw[hb];exact .inl rfl)
   exact hnj (this▸hx)
  have memf:∀{q:Nat} {is:List Id} {x:Id},iss[q]?=some is→x∈is→x∈iss.flatten:=fun hq hx=>List.mem_flatten.2 ⟨_,List.mem_of_getElem? hq,hx⟩
  refine .con .box true ds.length [.agg ds] (.box ds) _ cc.toList (fun _ q=>cc.getD q undef) (fun i q b=>i=0∧∃is,iss[q]?=some is∧∃x∈is,Bc (g x) b) _ rfl (by omega) ?_ ?_ ?_ ?_ ?_ ?_ ?_ ?_
  ·intro r hr';obtain rfl:r= .agg ds:=by simpa using hr'
   refine⟨rfl,rfl,fun c hc=>?_⟩
   obtain⟨q,hq⟩:=List.mem_iff_getElem?.1 hc;obtain⟨_,_,_,_,ho⟩:=hz q c hq;exact ho.isAgg
  ·exact⟨rfl,b,cc,e,rfl,hh,rfl,by omega⟩
  ·intro i r q c hi hc
   match i with
   | 0=>
    simp at hi;subst hi;obtain⟨_,v,_,hv,_⟩:=hz q c hc;simp[hv]
   | i+1=>simp at hi
  ·intro i r q c hi hc
   match i with
   | 0=>
    simp at hi;subst hi;obtain⟨is,v,his,hv,ho⟩:=hz q c hc;have e1:cc.getD q undef=v:=by simp[hv]
    grind
   | i+1=>simp at hi
  ·rintro i q b' ⟨rfl,is,his,_⟩
   have hlt:=(List.getElem?_eq_some_iff.1 his).1;exact⟨.agg ds,ds[q],rfl,by simp[D.cells]⟩
  ·rintro i q b' ⟨_,is,his,x,hx,hb'⟩ he
   simp[blk]at he;grind
  ·rintro i q i' q' b' ⟨rfl,is,his,x,hx,hb'⟩ ⟨rfl,is',his',x',hx',hb''⟩
   obtain⟨ob,o1,o2⟩:=hob x (memf his hx);obtain⟨ob',o1',o2'⟩:=hob x' (memf his' hx');have:=R.sep x x' ob ob' b' o1 o1' (o2.HA hb') (o2'.HA hb'');subst this;exact⟨rfl,Mv hnf his his' hx hx'⟩
  ·intro b';constructor
   ·rintro⟨x,hx,hb'⟩
    rcases List.mem_cons.1 hx with rfl | hx
    ·rw[hb]at hb';exact .inl (by rw[hb'.ptr];rfl)
    ·obtain⟨is,h3,h4⟩:=List.mem_flatten.1 hx;obtain⟨q,hq⟩:=List.mem_iff_getElem?.1 h3;grind
   ·rintro (hb' | ⟨_,q,_,is,his,x,hx,hb'⟩)
    ·simp[blk]at hb';exact⟨j,by simp,by rw[hb,←hb'];exact .inl rfl⟩
    grind
end
end Go.AM
namespace Go.AM
open Go Go.RowKit
section
variable {C:Cx}{F:Nat→Prop}{s:AL}{h:Heap}{g:AP}{a:Act}{w:World}
theorem IW {l:List Id}:∀{h:Heap}{i:Id},Az h (Aj l) i=if i∈l then some .gone else h i:=by
 induction l with
 | nil=>intro h i;simp[Aj,Az]
 | cons j l ih=>
  intro h i;show Az (AK h j .gone) (Aj l) i=_;rw[ih]
  by_cases h1:i∈l
  ·simp[h1]
  ·by_cases h2:i=j
   ·simp[AK,h2]
   ·simp[AK,h1,h2]
theorem AY.Mk {h':Heap}{g':AP}{F':Nat→Prop}(R:AY C F s h g a w) (T:Id→Prop)
  (hsame:∀i,¬T i→h' i=h i∧g' i=g i)
  (hT:∀i,T i→g' i=g i∨(isTu (g i)∧isTu (g' i)∧gval (g' i)=gval (g i))∨g i=undef)
  (hlv:∀i,T i→isTu (g i)→isLive (h' i)=true→isLive (h i)=true)
  (hnew:∀i ob,T i→h' i=some ob→(∃k ag sz rows foc,ob= .tree k ag sz rows foc)∨ob= .gone)
  (hobj:∀i o,T i→h' i=some o→(∀{x:CV} {v:Value},BB w (Av (zone g h) C.X) g h x v→BB w (Av (zone g' h') C.X) g' h' x v)→
   (∀{x:D} {v:Value},AZ w (Av (zone g h) C.X) x v→AZ w (Av (zone g' h') C.X) x v)→BL w (Av (zone g' h') C.X) g' h' o (g' i))
  (hblk:∀i ob b,T i→h' i=some ob→FF (g' i) ob b→∃j o0,T j∧h j=some o0∧(∀o,BS (g j) o0 b o))
  (hsep:∀i j oi oj b,T i→T j→h' i=some oi→h' j=some oj→FF (g' i) oi b→FF (g' j) oj b→i=j)
  (hext:∀j,T (.ext j)→CU (g (.ext j)) (g' (.ext j)))
  (hfree:∀n,F' n→g' (.loc n)=undef∧h' (.loc n)=none):AY C F' s h' g' a w:=by
 have hz:∀b o,Av (zone g' h') C.X b o→Av (zone g h) C.X b o:=by
  rintro b o (⟨i,ob,hi,h1⟩ | hx)
  ·by_cases ti:T i
   ·obtain⟨j,o0,_,hj,hb⟩:=hblk i ob b ti hi h1.HA;exact .inl ⟨j,_,hj,hb o⟩
   ·rw[(hsame i ti).1]at hi;rw[(hsame i ti).2]at h1;exact .inl ⟨i,ob,hi,h1⟩
  ·exact .inr hx
 have VP:∀i,¬isTu (g i)→g i≠undef→g' i=g i:=fun i h1 h2=>by
  grind
 have E:HC w (Av (zone g h) C.X) g h w (Av (zone g' h') C.X) g' h':=by
  refine⟨fun b o u hu hn=>⟨hu,fun hy=>hn (hz b o hy)⟩,fun i b hb=>?_,fun i q hq=>?_,fun i hi=>?_,fun i n sz e hi hk=>?_,fun i hi=>?_,fun i hi hl=>?_⟩
  ·exact VP i (fun h=>by rw[hb]at h;obtain⟨_,_,h,_⟩:=h;cases h) (by rw[hb];simp[undef])
  ·exact VP i (fun h=>by rw[hq]at h;obtain⟨_,_,h,_⟩:=h;cases h) (by rw[hq];simp[undef])
  ·rw[VP i (Eh hi) (fun h=>by rw[h]at hi;exact hi)];exact hi
  ·grind
  ·by_cases ti:T i
   ·rcases hT i ti with h | h | h
    ·rw[h];exact hi
    ·exact h.2.1
    ·rw[h]at hi;exact (BT hi).elim
   simp_all
  ·by_cases ti:T i
   ·refine⟨hlv i ti hi hl,?_⟩;rcases hT i ti with h | h | h
    ·rw[h]
    ·exact h.2.2
    ·rw[h]at hi;exact (BT hi).elim
   simp_all
 refine R.step T E ⟨rfl,rfl,rfl,Nat.le_refl _,fun _ _ _=>rfl,fun _ _ _ hu _=>hu⟩ hsame (fun _ _ _ _ _ _=>rfl) (fun i o ti ho=>hobj i o ti ho E.La E.GP) (fun i ob b o ti hi h1=>?_) hsep hext hfree
 obtain⟨j,o0,tj,hj,hb⟩:=hblk i ob b ti hi h1.HA;grind
theorem FG {ag:Bool}{ds:List D}(hag:∀d∈ds,d.isAgg=false) (h1:ag=false→ds.length=1):(rowOf ag ds).cells=ds∧(rowOf ag ds).isAgg=ag:=by
 cases ag with
 | true=>exact⟨rfl,rfl⟩
 | false=>
  match ds,h1 rfl with
  | [d],_=>
   have:=hag d (by simp)
   refine⟨?_,this⟩;show d.cells=[d];cases d<;>first | rfl | simp[D.isAgg]at this
theorem AY.mK (R:AY C F s h g a w) {i:Id}{kd:Kd}{ag:Bool}{sz k:Nat}{rows:List D}{cs:List CV}(hi:h i=some (.tree kd ag sz rows (some (k,cs)))) (hkd:kd.IT=false)
  {ds:List D} {iss:List (List Id)} (hds:ds.length=cs.length) (his:iss.length=cs.length) (hnd:iss.flatten.Nodup) (hag:ag=false→ds.length=1)
  (hc:∀(q:Nat) c d is,cs[q]?=some c→ds[q]?=some d→iss[q]?=some is→BU h c d is) {rows':List D} (hrows:rows.set k (rowOf ag ds)=rows'):
  ∃g',AY C F s (Az (AK h i (.tree kd ag sz rows' none)) (Aj iss.flatten)) g' a w:=by
 obtain⟨ht,h0,hf,xs,hx,hfoc,U,T,h1,h2,h3,h4,h5⟩:=R.heap.objs i _ hi;obtain⟨hk,hcs,hrel⟩:=hfoc k cs rfl
 have hat:∀(q:Nat),q<cs.length→∃c d is,cs[q]?=some c∧ds[q]?=some d∧iss[q]?=some is:=fun q hq=>
  ⟨cs[q],ds[q],iss[q],by simp,by simp,by simp⟩
 have memf:∀{q:Nat} {is:List Id} {x:Id},iss[q]?=some is→x∈is→x∈iss.flatten:=fun hq hx=>List.mem_flatten.2 ⟨_,List.mem_of_getElem? hq,hx⟩
 have hmem:∀x∈iss.flatten,(∃(q:Nat) (is:List Id),iss[q]?=some is∧x∈is)∧∃ob,h x=some ob∧B4 ob:=by
  intro x hx;obtain⟨is,h6,h7⟩:=List.mem_flatten.1 hx;obtain⟨q,hq⟩:=List.mem_iff_getElem?.1 h6;have hlt:=(List.getElem?_eq_some_iff.1 hq).1;obtain⟨c,d,is',e1,e2,e3⟩:=hat q (by omega)
  rw[hq]at e3;cases e3
  exact⟨⟨q,is,hq,h7⟩,(hc q c d is e1 e2 hq).whole x h7⟩
 have hni:i∉iss.flatten:=by
  intro hm;obtain⟨_,ob,o1,o2⟩:=hmem i hm;rw[hi]at o1;cases o1
  exact o2
 obtain⟨l1,hl1⟩:=Bc.fin (g i);obtain⟨l2,hl2⟩:=Bc.mJ (g:=g) iss.flatten
 obtain⟨gv,gt,gg,gb⟩:=Zg (gval (g i)) (l1++l2) (fun b=>Bc (g i) b∨∃j∈iss.flatten,Bc (g j) b) (fun b hb=>by
  grind)
 have hh:∀j,Az (AK h i (.tree kd ag sz rows' none)) (Aj iss.flatten) j=if j∈iss.flatten then some .gone else if j=i then some (.tree kd ag sz rows' none)else h j:=fun j=>by
  rw[IW];rfl
 have hlen:rows'.length=rows.length:=by rw[←hrows];simp
 have xlen:xs.length=rows.length*sz:=hx.len
 have xat:∀j,j<sz→∃u,xs[k*sz+j]?=some u:=by
  intro j hj
  have:k*sz+j<xs.length:=by
   have:=Nat.mul_le_mul_right sz (show k+1≤rows.length from hk)
   grind
  exact⟨_,List.getElem?_eq_getElem this⟩
 have hown:∀(q:Nat) d,ds[q]?=some d→∃is u,iss[q]?=some is∧xs[k*sz+q]?=some u∧B6 w d u (fun b=>∃x∈is,Bc (g x) b):=by
  intro q d hd;have hq:q<cs.length:=by grind
  obtain⟨c,d',is,e1,e2,e3⟩:=hat q hq;rw[hd]at e2;cases e2
  obtain⟨u,hu⟩:=xat q (by omega)
  exact⟨is,u,e3,hu,(hc q c d is e1 hd e3).rel R.heap ((List.sublist_flatten_of_mem (List.mem_of_getElem? e3)).nodup hnd) (hrel q c u e1 hu)⟩
 have hda:∀d∈ds,d.isAgg=false:=by
  intro d hd;obtain⟨q,hq⟩:=List.mem_iff_getElem?.1 hd;obtain⟨_,_,_,_,ho⟩:=hown q d hq;exact ho.isAgg
 obtain⟨rc,ra⟩:=FG hda hag
 have apart:∀x b,x∈iss.flatten→Bc (g x) b→¬Bc (g i) b:=by
  intro x b hx' hb hb';obtain⟨_,ob,o1,o2⟩:=hmem x hx';exact hni (R.heap.sep x i ob _ b o1 hi (o2.HA hb) hb'▸hx')
 refine⟨Ap g i gv,R.Mk (fun j=>j=i∨j∈iss.flatten) (fun j hj=>?_) ?_ ?_ ?_ ?_ ?_ ?_ ?_ ?_⟩
 ·simp only[not_or]at hj;rw[hh,if_neg hj.2,if_neg hj.1];exact⟨rfl,if_neg hj.1⟩
 ·rintro j (rfl | hj)
  ·exact .inr (.inl ⟨ht,by simpa [Ap] using gt,by simp[Ap,gg]⟩)
  ·have hne:j≠i:=by grind
   exact .inl (by simp[Ap,hne])
 ·rintro j (rfl | hj) _ hl
  ·rw[hi];rfl
  ·rw[hh,if_pos hj]at hl;cases hl
 ·grind
 ·rintro j o (rfl | hj) ho EC ED
  ·rw[hh,if_neg hni,if_pos rfl]at ho;cases ho
   have e1:Ap g j gv j=gv:=by simp[Ap]
   rw[e1]
   let T':Nat→Nat→Nat→Prop:=fun a q b=>if a=k then ∃is,iss[q]?=some is∧∃x∈is,Bc (g x) b else T a q b
   let U':Nat→Nat→Value:=fun a q=>if a=k then xs.getD (k*sz+q) undef else U a q
   have hTk:∀q b,T' k q b↔∃is,iss[q]?=some is∧∃x∈is,Bc (g x) b:=fun q b=>by simp[T']
   have hTo:∀a q,a≠k→T' a q=T a q:=fun a q ha=>by funext b;simp[T',ha]
   refine⟨gt,h0,fun r hr=>?_,xs,by rw[gg,hlen];exact hx,(fun _ _ h=>by cases h),U',T',fun a r q c _ hr hq=>?_,fun a q b hb=>⟨fun _ _ h=>(by cases h),?_⟩,fun a q b hb=>?_,fun a q a' q' b hb hb'=>?_,fun b=>?_⟩
   ·rw[←hrows]at hr;rcases List.mem_or_eq_of_mem_set hr with hr | rfl
    ·exact hf r hr
    ·exact⟨ra,by rw[rc];omega,by rw[rc];exact hda⟩
   ·by_cases ha:a=k
    ·subst ha;rw[←hrows,List.getElem?_set_self hk]at hr;cases hr
     rw[rc]at hq;obtain⟨is,u,e3,hu,ho⟩:=hown q c hq;have hU':U' a q=u:=by simp[U',hu]
     rw[hU'];refine⟨hu,(Cm.own hkd).2 (ho.congr fun b=>?_)⟩
     grind
    ·rw[←hrows,List.getElem?_set_ne (by omega)]at hr
     have hU':U' a q=U a q:=by simp[U',ha]
     rw[hU',hTo a q ha];exact⟨(h1 a r q c (fun k' cs' hk'=>by cases hk';exact ha) hr hq).1,(h1 a r q c (fun k' cs' hk'=>by cases hk';exact ha) hr hq).2.map ED id⟩
   ·grind
   ·grind
   ·by_cases ha:a=k
    ·by_cases ha':a'=k
     ·subst ha ha';obtain⟨is,hx',x,hx,hb⟩:=(hTk q b).1 hb;obtain⟨is',hx'',x',hxx,hb'⟩:=(hTk q' b).1 hb';obtain⟨_,ob,p1,p2⟩:=hmem x (memf hx' hx);obtain⟨_,ob',p3,p4⟩:=hmem x' (memf hx'' hxx);have:=R.heap.sep x x' _ _ b p1 p3 (p2.HA hb) (p4.HA hb');subst this;exact⟨rfl,Mv hnd hx' hx'' hx hxx⟩
     grind
    grind
   ·rw[gb,gg];constructor
    ·rintro (hb | ⟨x,hx',hb⟩)
     ·grind
     ·obtain⟨⟨q,is,hq,hxi⟩,_⟩:=hmem x hx';exact .inr ⟨k,q,(hTk q b).2 ⟨is,hq,x,hxi,hb⟩⟩
    grind
  ·rw[hh,if_pos hj]at ho;cases ho
   trivial
 ·rintro j ob b (rfl | hj) ho hb
  ·rw[hh,if_neg hni,if_pos rfl]at ho;cases ho
   have hb:Bc gv b:=by simpa [FF,Ap] using hb
   rcases (gb b).1 hb with hb | ⟨x,hx',hb⟩
   ·exact⟨j,_,.inl rfl,hi,fun _=>hb⟩
   ·obtain⟨_,ob,p1,p2⟩:=hmem x hx';exact⟨x,_,.inr hx',p1,fun o=>p2.zone hb⟩
  ·rw[hh,if_pos hj]at ho;cases ho
   exact hb.elim
 ·rintro j j' oj oj' b (rfl | hj) (rfl | hj') ho ho' hb hb'
  ·rfl
  ·rw[hh,if_pos hj']at ho';cases ho'
   exact hb'.elim
  ·rw[hh,if_pos hj]at ho;cases ho
   exact hb.elim
  ·rw[hh,if_pos hj]at ho;cases ho
   exact hb.elim
 ·rintro j (hj | hj)
  ·subst hj;exact .inr ⟨ht,by simpa [Ap] using gt,by simp[Ap,gg]⟩
  ·have hne:Id.ext j≠i:=by grind
   simp[Ap,hne,CU.refl]
 ·intro n hn;have h6:=R.free n hn;have hne:Id.loc n≠i:=by grind
  have hnm:Id.loc n∉iss.flatten:=by
   grind
  rw[hh,if_neg hnm,if_neg hne];exact⟨by simp[Ap,hne,h6.1],h6.2⟩
end
end Go.AM
namespace Go.AM
open Go Go.RowKit
theorem F1 {fresh:Nat}:∀{ds:List D}{c:Nat},(CQ fresh c ds).length=ds.length
 | [],c=>rfl
 | d::ds,c=>by simp[CQ,F1 (ds:=ds)]
theorem PI {fresh:Nat}:∀{ds:List D}{c j:Nat}{d:D},ds[j]?=some d→
  (EF d=true∧(CQ fresh c ds)[j]?=some (.ow (.loc (fresh+(c+j)))))∨(d= .nil∧(CQ fresh c ds)[j]?=some .nilp)∨(EF d=false∧(CQ fresh c ds)[j]?=some (.d d))
 | [],c,j,d,h=>by simp at h
 | x::ds,c,0,d,h=>by
  simp at h;subst h;cases x<;>first | exact .inl ⟨rfl,rfl⟩ | exact .inr (.inl ⟨rfl,rfl⟩) | exact .inr (.inr ⟨rfl,rfl⟩)
 | x::ds,c,j+1,d,h=>by
  simp at h;have:=PI (fresh:=fresh) (c:=c+1) h;rw[show c+1+j=c+(j+1)from by omega]at this
  trivial
theorem VB {fresh c:Nat}{d:D}{ds:List D}{k:Kd}{ag:Bool}{sz:Nat}{rows:List D}(h:d.con=some (k,ag,sz,rows)):
  CI fresh c (d::ds)=(.loc (fresh+c),.tree k ag sz rows none)::CI fresh (c+1) ds:=by
 cases d<;>simp[D.con]at h
 all_goals
  obtain⟨rfl,rfl,rfl,rfl⟩:=h;rfl
theorem VC {fresh c:Nat}{d:D}{ds:List D}(h:EF d=false):CI fresh c (d::ds)=CI fresh (c+1) ds:=by
 cases d<;>first | rfl | simp[EF]at h
theorem F2 {fresh:Nat}:∀{ds:List D}{c:Nat}{h:Heap}{x:Id},
  (∃(j:Nat) (d:D) (k:Kd) (ag:Bool) (sz:Nat) (rows:List D),ds[j]?=some d∧d.con=some (k,ag,sz,rows)∧x= .loc (fresh+(c+j))∧Az h (CI fresh c ds) x=some (.tree k ag sz rows none))∨
  ((∀(j:Nat) (d:D),ds[j]?=some d→EF d=true→x≠ .loc (fresh+(c+j)))∧Az h (CI fresh c ds) x=h x)
 | [],c,h,x=>.inr ⟨by simp,rfl⟩
 | d::ds,c,h,x=>by
  cases hl:EF d with
  | false=>
   rw[VC hl];rcases F2 (fresh:=fresh) (ds:=ds) (c:=c+1) (h:=h) (x:=x)with⟨j,d',k,ag,sz,rows,h1,h2,h3,h4⟩ | ⟨h1,h2⟩
   ·exact .inl ⟨j+1,d',k,ag,sz,rows,by simpa using h1,h2,by rw[h3];congr 1;omega,h4⟩
   grind
  | true=>
   obtain⟨k0,ag0,sz0,rows0,hcon⟩:=PG.1 hl;rw[VB hcon];have e:Az h ((.loc (fresh+c),.tree k0 ag0 sz0 rows0 none)::CI fresh (c+1) ds)=Az (AK h (.loc (fresh+c)) (.tree k0 ag0 sz0 rows0 none)) (CI fresh (c+1) ds):=rfl;rw[e];rcases F2 (fresh:=fresh) (ds:=ds) (c:=c+1) (h:=AK h (.loc (fresh+c)) (.tree k0 ag0 sz0 rows0 none)) (x:=x)with⟨j,d',k,ag,sz,rows,h1,h2,h3,h4⟩ | ⟨h1,h2⟩
   ·exact .inl ⟨j+1,d',k,ag,sz,rows,by simpa using h1,h2,by rw[h3];congr 1;omega,h4⟩
   ·by_cases hx:x= .loc (fresh+c)
    ·exact .inl ⟨0,d,k0,ag0,sz0,rows0,rfl,hcon,by simpa using hx,by rw[h2,hx];simp[AK]⟩
    ·refine .inr ⟨fun j d' hj hc=>?_,by rw[h2];simp[AK,hx]⟩
     match j with
     | 0=>simpa using hx
     | j+1=>
      grind
section
variable {C:Cx}{F:Nat→Prop}{s:AL}{h:Heap}{g:AP}{a:Act}{w:World}
def kid (fresh:Nat) (ds:List D) (x:Id) (j:Nat):Prop:=∃d,ds[j]?=some d∧EF d=true∧x= .loc (fresh+j)
theorem XK {fresh:Nat}{ds:List D}{x:Id}{j j':Nat}(h:kid fresh ds x j) (h':kid fresh ds x j'):j=j':=by
 obtain⟨_,_,_,h⟩:=h;obtain⟨_,_,_,h'⟩:=h';simp_all
theorem AY.mL (R:AY C F s h g a w) {i:Id}{kd:Kd}(hkd:kd.IT=false) {ag:Bool}{sz:Nat}{rows:List D}(hi:h i=some (.tree kd ag sz rows none)) {k:Nat}{r:D}(hr:rows[k]?=some r)
  {fresh:Nat} (hF:∀c,c<32→F (fresh+c)) (hn:r.cells.length≤32):
  ∃g',AY C (fun n=>F n∧¬(fresh≤n∧n<fresh+32)) s (Az (AK h i (.tree kd ag sz rows (some (k,CQ fresh 0 r.cells)))) (CI fresh 0 r.cells)) g' a w∧gval (g' i)=gval (g i):=by
 classical
 obtain⟨ht,h0,hf,xs,hx,_,U,T,h1,h2,h3,h4,h5⟩:=R.heap.objs i _ hi;have h1:∀(i:Nat) r (j:Nat) c,rows[i]?=some r→r.cells[j]?=some c→xs[i*sz+j]?=some (U i j)∧B6 w c (U i j) (T i j):=fun i r j c p1 p2=>⟨(h1 i r j c (fun _ _ h=>by cases h) p1 p2).1,(Cm.own hkd).1 (h1 i r j c (fun _ _ h=>by cases h) p1 p2).2⟩
 obtain⟨f1,f2,f3⟩:=hf r (List.mem_of_getElem? hr);obtain⟨l1,hl1⟩:=Bc.fin (g i);have gcs:∀j,∃gv,isTu gv∧gval gv=U k j∧∀b,Bc gv b↔T k j b:=fun j=>Zg (U k j) l1 (T k j) (fun b hb=>hl1 b ((h5 b).2 (.inr ⟨k,j,hb⟩)))
 let gc:Nat→Value:=fun j=>Classical.choose (gcs j)
 have hgc:∀j,isTu (gc j)∧gval (gc j)=U k j∧∀b,Bc (gc j) b↔T k j b:=fun j=>Classical.choose_spec (gcs j)
 obtain⟨gv,gt,gg,gb⟩:=Zg (gval (g i)) l1 (fun b=>blk (gval (g i))=some b∨∃i' j,i'≠k∧T i' j b) (fun b hb=>by
  grind)
 let K:=kid fresh r.cells
 let g':AP:=fun x=>if x=i then gv else if hx:∃j,K x j then gc (Classical.choose hx)else g x
 have kfree:∀x j,K x j→g x=undef∧h x=none∧x≠i:=by
  rintro x j ⟨_,hj,_,rfl⟩
  have:=R.free (fresh+j) (hF j (by grind))
  grind
 have gi:g' i=gv:=if_pos rfl
 have gk:∀x j,K x j→g' x=gc j:=by
  intro x j hj;show (if x=i then gv else if hx:∃j,K x j then gc (Classical.choose hx)else g x)=_
  rw[if_neg (kfree x j hj).2.2,dif_pos ⟨j,hj⟩];rw[XK (Classical.choose_spec (⟨j,hj⟩:∃j,K x j)) hj]
 have go:∀x,x≠i→(∀j,¬K x j)→g' x=g x:=by
  grind
 let h':=Az (AK h i (.tree kd ag sz rows (some (k,CQ fresh 0 r.cells)))) (CI fresh 0 r.cells)
 have hk:∀x,(∃j d k' ag' sz' rows',K x j∧r.cells[j]?=some d∧d.con=some (k',ag',sz',rows')∧h' x=some (.tree k' ag' sz' rows' none))∨((∀j,¬K x j)∧h' x=AK h i (.tree kd ag sz rows (some (k,CQ fresh 0 r.cells))) x):=by
  intro x;rcases F2 (fresh:=fresh) (ds:=r.cells) (c:=0) (h:=AK h i (.tree kd ag sz rows (some (k,CQ fresh 0 r.cells)))) (x:=x)with⟨j,d,k',ag',sz',rows',p1,p2,p3,p4⟩ | ⟨p1,p2⟩
  ·rw[Nat.zero_add]at p3;exact .inl ⟨j,d,k',ag',sz',rows',⟨d,p1,PG.2 ⟨_,_,_,_,p2⟩,p3⟩,p1,p2,p4⟩
  ·refine .inr ⟨?_,p2⟩
   rintro j ⟨d,q1,q2,q3⟩
   grind
 have hi':h' i=some (.tree kd ag sz rows (some (k,CQ fresh 0 r.cells))):=by
  rcases hk i with⟨j,_,_,_,_,_,p1,_⟩ | ⟨_,p2⟩
  ·grind
  ·rw[p2];simp[AK]
 have hkid:∀x j d,K x j→r.cells[j]?=some d→∃k' ag' sz' rows',d.con=some (k',ag',sz',rows')∧h' x=some (.tree k' ag' sz' rows' none):=by
  intro x j d p1 p2;rcases hk x with⟨j',d',k',ag',sz',rows',q1,q2,q3,q4⟩ | ⟨q1,_⟩
  ·have:=XK p1 q1;grind
  grind
 have hoth:∀x,x≠i→(∀j,¬K x j)→h' x=h x:=by
  intro x p1 p2;rcases hk x with⟨j,_,_,_,_,_,q1,_⟩ | ⟨_,q2⟩
  ·exact absurd q1 (p2 j)
  ·rw[q2];simp[AK,p1]
 have rk:∀j c,r.cells[j]?=some c→xs[k*sz+j]?=some (U k j)∧B6 w c (U k j) (T k j):=fun j c hc=>h1 k r j c hr hc
 refine⟨g',R.Mk (fun x=>x=i∨∃j,K x j) (fun x hx'=>?_) ?_ ?_ ?_ ?_ ?_ ?_ ?_ ?_,by rw[gi,gg]⟩
 ·grind
 ·grind
 ·rintro x (rfl | ⟨j,hj⟩) hxt _
  ·rw[hi];rfl
  ·rw[(kfree x j hj).1]at hxt;exact (BT hxt).elim
 ·grind
 ·rintro x o (rfl | ⟨j,hj⟩) ho EC ED
  ·replace ho:=hi'.symm.trans ho;cases ho
   rw[gi]
   let T':Nat→Nat→Nat→Prop:=fun a q b=>a≠k∧T a q b
   have hT':∀a q,a≠k→T' a q=T a q:=fun a q ha=>by funext b;simp[T',ha]
   refine⟨gt,h0,hf,xs,by rw[gg];exact hx,fun k' cs' hk'=>?_,U,T',fun a y q c ha hy hq=>?_,fun a q b hb=>⟨fun k' cs' hk'=>?_,?_⟩,fun a q b hb=>by grind,fun a q a' q' b hb hb'=>h4 a q a' q' b hb.2 hb'.2,fun b=>?_⟩
   ·cases hk'
    refine⟨(List.getElem?_eq_some_iff.1 hr).1,by rw[F1];exact f2,fun j c u hj hu=>?_⟩
    have hlt:j<r.cells.length:=by rw[←F1 (fresh:=fresh) (c:=0)];grind
    obtain⟨p1,p2⟩:=rk j r.cells[j] (by simp)
    rw[p1]at hu;cases hu
    have hd:r.cells[j]?=some r.cells[j]:=by simp
    generalize r.cells[j]=d at hd p2;rcases PI (fresh:=fresh) (c:=0) hd with⟨q1,q2⟩ | ⟨q1,q2⟩ | ⟨q1,q2⟩
    ·rw[hj]at q2;cases q2
     have hK:K (.loc (fresh+j)) j:=⟨_,hd,q1,rfl⟩;rw[Nat.zero_add];exact⟨p2.BR,by grind,fun _=>by grind⟩
    ·rw[hj]at q2;cases q2
     subst q1;generalize U k j=v at p2;generalize T k j=t at p2;cases p2 with
     | nil=>rfl
     | con _ _ _ _ _ _ _ _ _ _ hcon=>cases hcon
    ·rw[hj]at q2;cases q2
     refine⟨?_,f3 d (List.mem_of_getElem? hd)⟩;generalize U k j=v at p2;generalize T k j=t at p2;cases p2 with
     | int k n=>exact .int k n
     | bool b=>exact .bool b
     | str s=>exact .str s
     | nil=>exact .nil
     | con _ _ _ _ _ _ _ _ _ _ hcon=>rw[Lb q1]at hcon;cases hcon
   ·have ha:a≠k:=ha k _ rfl;rw[hT' a q ha];exact⟨(h1 a y q c hy hq).1,(Cm.own hkd).2 (h1 a y q c hy hq).2⟩
   ·grind
   ·exact (h2 a q b hb.2).2
   ·rw[gb,gg]
  ·obtain⟨d,q1,q2,q3⟩:=hj;have hK:K x j:=⟨d,q1,q2,q3⟩;obtain⟨k',ag',sz',rows',hcon,q4⟩:=hkid x j d hK q1;replace ho:=q4.symm.trans ho;cases ho
   rw[gk x j hK];refine (Ms (SQ.2 hcon)).2 ⟨(hgc j).1,?_⟩;rw[(hgc j).2.1];exact (rk j _ q1).2.congr fun b=>((hgc j).2.2 b).symm
 ·rintro x ob b (rfl | ⟨j,hj⟩) ho hb
  ·replace ho:=hi'.symm.trans ho;cases ho
   rw[gi]at hb;have hb:Bc gv b:=hb;refine⟨x,_,.inl rfl,hi,fun _=>(h5 b).2 ?_⟩
   grind
  ·have hb:=hb.blk;rw[gk x j hj]at hb;exact⟨i,_,.inl rfl,hi,fun _=>(h5 b).2 (.inr ⟨k,j,((hgc j).2.2 b).1 hb⟩)⟩
 ·rintro x y ox oy b (rfl | ⟨j,hj⟩) (rfl | ⟨j',hj'⟩) ho ho' hb hb'
  ·rfl
  ·have hb:=hb.blk;have hb':=hb'.blk;grind
  ·have hb:=hb.blk;have hb':=hb'.blk;grind
  ·have hb:=hb.blk;have hb':=hb'.blk;rw[gk x j hj]at hb;rw[gk y j' hj']at hb';have e3:=(h4 k j k j' b (((hgc j).2.2 b).1 hb) (((hgc j').2.2 b).1 hb')).2;subst e3;obtain⟨_,_,_,p⟩:=hj;obtain⟨_,_,_,p'⟩:=hj';rw[p,p']
 ·rintro x (hx' | ⟨j,_,_,_,hx'⟩)
  ·subst hx';rw[gi];exact .inr ⟨ht,gt,gg⟩
  ·cases hx'
 ·rintro n ⟨hn1,hn2⟩
  have h6:=R.free n hn1;have hne:Id.loc n≠i:=by grind
  have hnk:∀j,¬K (.loc n) j:=by
   rintro j ⟨_,q1,_,q2⟩
   grind
  grind
end
end Go.AM
namespace Go.AM
open Go Go.RowKit
section
variable {C:Cx}{F:Nat→Prop}{s:AL}{h h':Heap}{g:AP}{a:Act}{w w':World}
theorem AY.Ke (R:AY C F s h g a w) {T0:List Id}(hT:∀i∈T0,∃ob0,h i=some ob0∧B4 ob0) {n:Nat}(hf:F n)
  (hos:w'.os=w.os∧w'.tape=w.tape∧w'.output=w.output∧w.heap.size≤w'.heap.size)
  (hblk:∀b,b<w.heap.size→(∀i∈T0,¬Bc (g i) b)→w'.heap[b]?=w.heap[b]?)
  {ob:AD} (hzo:∀gv b o,BS gv ob b o→Bc gv b) {v:Value} (P:Nat→Prop) (l:List Nat) (hl:∀b,P b→b∈l) (hP:∀b,P b→(∃i∈T0,Bc (g i) b)∨w.heap.size≤b) (hv:v.oneCell'=true)
  (hrel:∀(Z':Ak) (g':AP) (h':Heap) (gv:Value),isTu gv→gval gv=v→(∀b,Bc gv b↔P b)→HC w (Av (zone g h) C.X) g h w' Z' g' h'→BL w' Z' g' h' ob gv):
  ∃g',AY C (fun k=>F k∧k≠n) s (AK (Az h (Aj T0)) (.loc n) ob) g' a w'∧
   BB w' (Av (zone g' (AK (Az h (Aj T0)) (.loc n) ob)) C.X) g' (AK (Az h (Aj T0)) (.loc n) ob) (.ow (.loc n)) v:=by
 obtain⟨hgn,hhn⟩:=R.free n hf;obtain⟨gv,gt,gg,gb⟩:=Zg v l P hl
 have hnT:Id.loc n∉T0:=by
  grind
 let h':Heap:=AK (Az h (Aj T0)) (.loc n) ob
 let g':AP:=Ap g (.loc n) gv
 have hh:∀i,h' i=if i= .loc n then some ob else if i∈T0 then some .gone else h i:=fun i=>by
  show (if i= .loc n then _ else Az h (Aj T0) i)=_
  rw[IW]
 have gn:g' (.loc n)=gv:=by simp[g',Ap]
 have go:∀i,i≠ .loc n→g' i=g i:=fun i hi=>by simp[g',Ap,hi]
 have tuT:∀i∈T0,¬Il (g i):=by
  intro i hi;obtain⟨_,h1,h2⟩:=hT i hi;exact h2.AMy (R.heap.objs i _ h1)
 have zT:∀i∈T0,∀b o,Bc (g i) b→zone g h b o:=by
  intro i hi b o hb;obtain⟨_,h1,h2⟩:=hT i hi;exact⟨i,_,h1,h2.zone hb⟩
 have hcell:∀b o u,w.cell? ⟨b,o,none⟩=some u→¬zone g h b o→w'.cell? ⟨b,o,none⟩=some u:=by
  intro b o u hu hn;exact (World.cell?_of_block (a:=⟨b,o,none⟩) (hblk b (World.block_lt_of_cell? w ⟨b,o,none⟩ hu) (fun i hi hb=>hn (zT i hi b o hb)))).trans hu
 have hz:∀b o,Av (zone g' h') C.X b o→Av (zone g h) C.X b o∨w.heap.size≤b:=by
  rintro b o (⟨i,ob0,hi,h1⟩ | hx)
  ·rw[hh]at hi
   by_cases hin:i= .loc n
   ·rw[if_pos hin]at hi;cases hi
    subst hin;replace h1:Bc (g' (.loc n)) b:=hzo _ _ _ h1;rw[gn]at h1;rcases hP b ((gb b).1 h1)with⟨j,hj,hb⟩ | hb
    ·exact .inl (.inl (zT j hj b o hb))
    ·exact .inr hb
   ·rw[if_neg hin]at hi;rw[go i hin]at h1
    by_cases hiT:i∈T0
    ·rw[if_pos hiT]at hi;cases hi
     exact h1.elim
    ·rw[if_neg hiT]at hi;exact .inl (.inl ⟨i,ob0,hi,h1⟩)
  ·exact .inl (.inr hx)
 have nfree:∀{i:Id},g i≠undef→i≠ .loc n:=by
  grind
 have E:HC w (Av (zone g h) C.X) g h w' (Av (zone g' h') C.X) g' h':=by
  refine⟨fun b o u hu hn=>⟨hcell b o u hu (fun hy=>hn (.inl hy)),fun hy=>?_⟩,fun i b hb=>go i (nfree (by rw[hb];simp[undef])),fun i q hq=>go i (nfree (by rw[hq];simp[undef])),fun i hi=>?_,fun i k sz' e hi hk=>?_,fun i hi=>?_,fun i hi hlv=>?_⟩
  ·have:=World.block_lt_of_cell? w ⟨b,o,none⟩ hu;grind
  ·rw[go i (nfree fun e=>by rw[e]at hi;exact hi)];exact hi
  ·have hin:i≠ .loc n:=nfree fun e=>by rw[e]at hi;exact hi
   grind
  ·grind
  ·have hin:i≠ .loc n:=nfree fun e=>BT (e▸hi)
   rw[hh,if_neg hin]at hlv
   by_cases hiT:i∈T0
   ·rw[if_pos hiT]at hlv;cases hlv
   simp_all
 refine⟨g',R.step (F':=fun k=>F k∧k≠n) (fun i=>i= .loc n∨i∈T0) E ⟨hos.1,hos.2.1,hos.2.2.1,hos.2.2.2,fun b hb hn=>hblk b hb (fun i hi hbb=>hn 0 (zT i hi b 0 hbb)),hcell⟩ (fun i hi=>?_) (fun i o b hi ho hb=>?_) (fun i o ti ho=>?_) (fun i ob0 b o ti ho h1=>?_)
  (fun i j oi oj b ti tj ho ho' hb hb'=>?_) (fun j hj=>?_) (fun k hk=>?_),?_⟩
 ·grind
 ·simp only[not_or]at hi;refine hblk b ((R.heap.objs i o ho).lt hb) (fun j hj hbb=>?_)
  obtain⟨_,h1,h2⟩:=hT j hj;exact hi.2 (R.heap.sep i j o _ b ho h1 hb (h2.HA hbb)▸hj)
 ·replace ho:=(hh i).symm.trans ho
  by_cases hin:i= .loc n
  ·grind
  ·rw[if_neg hin]at ho;rcases ti with ti | ti
   ·exact absurd ti hin
   ·rw[if_pos ti]at ho;cases ho
    trivial
 ·replace ho:=(hh i).symm.trans ho
  by_cases hin:i= .loc n
  ·rw[if_pos hin]at ho;cases ho
   subst hin;replace h1:Bc (g' (.loc n)) b:=hzo _ _ _ h1;rw[gn]at h1;rcases hP b ((gb b).1 h1)with⟨j,hj,hb⟩ | hb
   ·obtain⟨_,h2,h3⟩:=hT j hj;exact .inl ⟨j,_,.inr hj,h2,h3.zone hb⟩
   ·exact .inr hb
  ·rw[if_neg hin]at ho;rcases ti with ti | ti
   ·exact absurd ti hin
   ·rw[if_pos ti]at ho;cases ho
    exact h1.elim
 ·replace ho:=(hh i).symm.trans ho;replace ho':=(hh j).symm.trans ho'
  by_cases hin:i= .loc n
  ·by_cases hjn:j= .loc n
   ·rw[hin,hjn]
   ·rw[if_neg hjn]at ho';rcases tj with tj | tj
    ·exact absurd tj hjn
    ·rw[if_pos tj]at ho';cases ho'
     exact hb'.elim
  ·rw[if_neg hin]at ho;rcases ti with ti | ti
   ·exact absurd ti hin
   ·rw[if_pos ti]at ho;cases ho
    exact hb.elim
 ·rw[go (.ext j) (by simp)]
  exact .refl _
 ·obtain⟨hk1,hk2⟩:=hk;have h6:=R.free k hk1;grind
 ·exact⟨hv,by rw[gn];exact gt,fun _=>by rw[gn,gg]⟩
theorem AY.SC (R:AY C F s h g a w) {T0:List Id}(hT:∀i∈T0,∃ob,h i=some ob∧B4 ob) {n:Nat}(hf:F n)
  (hos:w'.os=w.os∧w'.tape=w.tape∧w'.output=w.output∧w.heap.size≤w'.heap.size)
  (hblk:∀b,b<w.heap.size→(∀i∈T0,¬Bc (g i) b)→w'.heap[b]?=w.heap[b]?)
  {kd:Kd} {ag:Bool} {sz:Nat} {out:List D} {v:Value} (P:Nat→Prop) (l:List Nat) (hl:∀b,P b→b∈l) (hP:∀b,P b→(∃i∈T0,Bc (g i) b)∨w.heap.size≤b) (hv:v.oneCell'=true)
  (hrel:∀(Z':Ak) (g':AP) (h':Heap) (gv:Value),isTu gv→gval gv=v→(∀b,Bc gv b↔P b)→(∀{x:D} {u:Value},AZ w (Av (zone g h) C.X) x u→AZ w' Z' x u)→BL w' Z' g' h' (.tree kd ag sz out none) gv):
  ∃g',AY C (fun k=>F k∧k≠n) s (AK (Az h (Aj T0)) (.loc n) (.tree kd ag sz out none)) g' a w'∧
   BB w' (Av (zone g' (AK (Az h (Aj T0)) (.loc n) (.tree kd ag sz out none))) C.X) g' (AK (Az h (Aj T0)) (.loc n) (.tree kd ag sz out none)) (.ow (.loc n)) v:=
 R.Ke hT hf hos hblk (ob:=.tree kd ag sz out none) (fun _ _ _ h=>h) P l hl hP hv fun Z' g' h' gv gt gg gb E=>hrel Z' g' h' gv gt gg gb E.GP
end
end Go.AM
namespace Go.AM
open Go Go.RowKit
def MS:Kd→Bool
 | .flat=>false
 | .fmap _=>false
 | _=>true
theorem Ld {k:Kd}:MS k=true↔k.IT=false:=by cases k<;>simp[MS,Kd.IT]
def GV (h:Heap):List Id→(Heap→List Id→List (Id×AD)→Prop)→Prop
 | [],K=>K h [] []
 | i::r,K=>match h i with
  | some (.tree kd ag sz rows (some (k,cs)))=>BJ (MS kd)<| Mu h cs fun ds is=>match nodupB is with
   | true=>match ag || Nat.beq ds.length 1 with
    | true=>∃rows',rows.set k (rowOf ag ds)=rows'∧GV (Az (AK h i (.tree kd ag sz rows' none)) (Aj is)) r fun h' rd wr=>K h' (i::(is++rd)) ((i,.tree kd ag sz rows' none)::(Aj is++wr))
    | false=>False
   | false=>False
  | _=>False
theorem Cs {l l':List (Id×AD)}:∀{h:Heap},Az h (l++l')=Az (Az h l) l':=by
 induction l with
 | nil=>intro h;rfl
 | cons x l ih=>intro h;exact ih
theorem QR {wr:List (Id×AD)}:∀{h σh:Heap}{i:Id},σh i=h i→Az σh wr i=Az h wr i:=by
 induction wr with
 | nil=>intro h σh i e;exact e
 | cons x wr ih=>
  intro h σh i e;refine ih ?_;simp only[AK];simp_all
theorem BU.at {h σh:Heap}{c:CV}{d:D}{is:List Id}(q:BU h c d is):(∀j∈is,σh j=h j)→BU σh c d is:=by
 induction q with
 | d d hd=>exact fun _=>.d d hd
 | nilp=>exact fun _=>.nilp
 | nils ag sz hsz=>exact fun _=>.nils ag sz hsz
 | ow j k ag sz rows x hj hx=>exact fun he=>.ow j k ag sz rows x ((he j (by simp)).trans hj) hx
 | ptr j cs ds iss hj h0 h1 h2 hr ih=>
  intro he;refine .ptr j cs ds iss ((he j (by simp)).trans hj) h0 h1 h2 fun q c d is e1 e2 e3=>ih q c d is e1 e2 e3 fun x hx=>he x (List.mem_cons_of_mem _ (List.mem_flatten.2 ⟨is,List.mem_of_getElem? e3,hx⟩))
theorem PJ {C:Cx}:∀{gs:List Id}{h:Heap}{K:Heap→List Id→List (Id×AD)→Prop},GV h gs K→
  ∃rd wr,K (Az h wr) rd wr∧∀F s σh a w,Rel C F s σh a w→(∀i∈rd,σh i=h i)→Rel C F s (Az σh wr) a w
 | [],h,K,hk=>⟨[],[],hk,fun F s σh a w R _=>R⟩
 | i::r,h,K,hk=>by
  unfold GV at hk;split at hk
  ·rename_i kd ag sz rows k cs hi;obtain⟨hnf,hk⟩:=AA.1 hk;obtain⟨ds,iss,hk,hdl,hol,hcl⟩:=IV hk;split at hk
   ·rename_i hnd;split at hk
    ·rename_i hag;obtain⟨rows',hrows,hk⟩:=hk;obtain⟨rd,wr,hK,H⟩:=PJ (C:=C) hk;refine⟨i::(iss.flatten++rd),(i,.tree kd ag sz rows' none)::(Aj iss.flatten++wr),?_,?_⟩
     ·rw[show Az h ((i,.tree kd ag sz rows' none)::(Aj iss.flatten++wr))=Az (Az (AK h i (.tree kd ag sz rows' none)) (Aj iss.flatten)) wr from Cs]
      exact hK
     ·rintro F s σh a w ⟨g,R⟩ hrd
      have hσ:σh i=some (.tree kd ag sz rows (some (k,cs))):=(hrd i (by simp)).trans hi
      obtain⟨g',R'⟩:=R.mK hσ (Ld.1 hnf) hdl hol (CB.1 hnd) (fun e=>by simp_all) (fun j c d is h1 h2 h3=>(hcl j c d is h1 h2 h3).at fun x hx=>
       hrd x (List.mem_cons_of_mem _ (List.mem_append.2 (.inl (List.mem_flatten.2 ⟨is,List.mem_of_getElem? h3,hx⟩))))) hrows
      rw[show Az σh ((i,.tree kd ag sz rows' none)::(Aj iss.flatten++wr))=Az (Az (AK σh i (.tree kd ag sz rows' none)) (Aj iss.flatten)) wr from Cs]
      refine H F s _ a w ⟨g',R'⟩ fun x hx=>?_
      refine QR ?_;have:=hrd x (List.mem_cons_of_mem _ (List.mem_append.2 (.inr hx)));simp only[AK];simp_all
    ·exact hk.elim
   ·exact hk.elim
  ·exact hk.elim
theorem EG {C:Cx}{o:Oper}{fresh:Nat}{s:AL}{h:Heap}{gs:List Id}{K:Heap→(Out→Prop)→Prop}{k:Out→Prop}
  (hk:GV h gs fun h' rd wr=>K h' fun out=>k ⟨out.val,rd++out.rd,wr++out.wr⟩)
  (hK:∀h' k',K h' k'→∃out,k' out∧BN C o fresh s h' out):∃out,k out∧BN C o fresh s h out:=by
 obtain⟨rd,wr,hk,H⟩:=PJ (C:=C) hk;obtain⟨out,hk,hok⟩:=hK _ _ hk;refine⟨_,hk,?_⟩;intro F σs σh a w Q R ho hrd hF hd;have R':=H F σs σh a w R (fun i hi=>hrd i (List.mem_append.2 (.inl hi)))
 have:=hok F σs (Az σh wr) a w Q R' ho (fun i hi=>QR (hrd i (List.mem_append.2 (.inr hi)))) hF hd
 rw[show Az σh (wr++out.wr)=Az (Az σh wr) out.wr from Cs]
 exact this
end Go.AM
namespace Go.AM
open Go Go.RowKit
def I6 (h:Heap) (K:Heap→(Out→Prop)→Prop) (k:Out→Prop):Prop:=∃gs,GV h gs fun h' rd wr=>K h' fun out=>k ⟨out.val,rd++out.rd,wr++out.wr⟩
def QS:AV→Bool
 | .v (.c (.op _ _ _ _))=>true
 | .v (.c (.ow _))=>true
 | _=>false
def QT:Kd→Bool
 | .flat=>false
 | .fmap _=>false
 | .map=>false
 | _=>true
def Mw (x:AV) (h:Heap) (K:Id→Kd→Bool→Nat→List D→Option (Nat×List CV)→Nat→Nat→Prop):Prop:=
 match x with
 | .v (.c (.op id sz kk o))=>match h id with
  | some (.tree kd ag sz' rows foc)=>BJ (Nat.beq sz' sz) (BJ (QT kd) (K id kd ag sz' rows foc kk o))
  | _=>False
 | .v (.c (.ow id))=>match h id with
  | some (.tree kd ag sz rows foc)=>match kd with
   | .box=>K id .box ag sz rows foc 0 0
   | _=>False
  | _=>False
 | _=>False
def QU:D→Bool
 | .list _ _ _=>false
 | .box _=>false
 | .map _ _=>false
 | .nil=>false
 | _=>true
def loadT (ti:Types) (t:TypeId) (x:AV) (fresh:Nat) (h:Heap) (k:Out→Prop):Prop:=
 Ao ti t fun i=>Mw x h fun id kd ag sz rows foc kk o=>
 match foc with
 | some (k',cs)=>k'=kk∧BJ (Nat.ble (o+i.size) cs.length) (k ⟨.v (V1.Aa (AR i.desc) ((cs.drop o).take i.size)),[id],[]⟩)
 | none=>∃r,rows[kk]?=some r∧BJ (Nat.ble (o+i.size) r.cells.length) (∃b:Bool,match b with
  | true=>BJ (Bd QU ((r.cells.drop o).take i.size)) (k ⟨.v (V1.Aa (AR i.desc) (((r.cells.drop o).take i.size).map CV.d)),[id],[]⟩)
  | false=>BJ (Nat.ble r.cells.length 32) (k ⟨.v (V1.Aa (AR i.desc) (((CQ fresh 0 r.cells).drop o).take i.size)),[id],(id,.tree kd ag sz rows (some (kk,CQ fresh 0 r.cells)))::CI fresh 0 r.cells⟩))
def SR (ti:Types) (t:TypeId) (x:AV) (fresh:Nat) (h:Heap) (k:Out→Prop):Prop:=I6 h (fun h'=>loadT ti t x fresh h') k
def storeT (ti:Types) (t:TypeId) (x y:AV) (fresh:Nat) (h:Heap) (k:Out→Prop):Prop:=
 Ao ti t fun i=>DR y fun y=>BJ (Nat.beq y.cells.length i.size)<| Mw x h fun id kd ag sz rows foc kk o=>
 match foc with
 | some (k',cs)=>k'=kk∧BJ (Nat.ble (o+i.size) cs.length) (k ⟨.u,[id],[(id,.tree kd ag sz rows (some (kk,cs.take o++y.cells++cs.drop (o+i.size))))]⟩)
 | none=>∃r,rows[kk]?=some r∧BJ (Nat.ble (o+i.size) r.cells.length) (BJ (Nat.ble r.cells.length 32)
   (k ⟨.u,[id],(id,.tree kd ag sz rows (some (kk,(CQ fresh 0 r.cells).take o++y.cells++(CQ fresh 0 r.cells).drop (o+i.size))))::CI fresh 0 r.cells⟩))
def PK (ti:Types) (t:TypeId) (x y:AV) (fresh:Nat) (h:Heap) (k:Out→Prop):Prop:=I6 h (fun h'=>storeT ti t x y fresh h') k
def F3 (ti:Types) (t:TypeId) (x:AV) (f:Nat) (h:Heap) (k:Out→Prop):Prop:=
 Ao ti t fun i=>
 match i.desc with
 | .struct fs=>match fs[f]? with
  | some fd=>Ao ti fd.type fun j=>BJ (Nat.blt 0 j.size)<| Mw x h fun id _ _ sz _ _ kk o=>k ⟨.v (.c (.op id sz kk (o+fd.offset))),[id],[]⟩
  | none=>False
 | _=>False
def F4 (M:Aw) (ti:Types) (t:TypeId) (x i:AV) (h:Heap) (k:Out→Prop):Prop:=
 DD i fun _ n=>Ao ti t fun q=>
 match q.desc with
 | .slice e=>Ao ti e fun j=>match x with
  | .v (.c (.ow id))=>match h id with
   | some (.tree kd ag sz rows _)=>match kd with
    | .row=>BJ (Nat.beq sz j.size)<| (M.lock fun _=>0≤n∧n.toNat<rows.length)∧k ⟨.v (.c (.op id sz n.toNat 0)),[id],[]⟩
    | _=>False
   | _=>False
  | _=>False
 | _=>False
def Jo (M:Aw) (ti:Types) (t:TypeId) (x:AV) (h:Heap) (k:Out→Prop):Prop:=
 Ao ti t fun q=>match x with
 | .v (.c (.ow id))=>match h id with
  | some (.tree kd _ _ rows _)=>match kd with
   | .row=>(match q.desc with
    | .slice _=>∃z:Int,M.lenI rows=z∧k ⟨.v (.d (.int .i64 z)),[id],[]⟩
    | _=>False)
   | .map=>(match q.desc with
    | .map _ _=>∃z:Int,M.lenI rows=z∧k ⟨.v (.d (.int .i64 z)),[id],[]⟩
    | _=>False)
   | _=>False
  | _=>False
 | _=>False
end Go.AM
namespace Go.AM
open Go Go.RowKit
section
variable {C:Cx}{ti:Types}{o:Oper}{fresh:Nat}{s:AL}{h:Heap}{k:Out→Prop}
def BH (ti:Types):Prop:=∀t x,ti t=some x→AR x.desc=false→x.size=1
theorem GW {n:Nat}{U:Nat→Value}{j:Nat}{u:Value}(h:(((List.range n).map U).toArray)[j]?=some u):j<n∧u=U j:=by
 grind
theorem CJ {P:Program}{w:World}{t:TypeId}{i:TI}(hti:Ay P ti) (h1:BH ti) (hi:ti t=some i) {b q:Nat}{vs:Array Value}(hs:vs.size=i.size)
  (hc:∀(j:Nat) u,vs[j]?=some u→w.cell? ⟨b,q+j,none⟩=some u):
  ∃v,(Instr.loadAt t (.pointer (some ⟨b,q,none⟩))).run P w= .ok v w∧(AR i.desc=true→v= .agg vs)∧(AR i.desc=false→vs=#[v]):=by
 obtain⟨hu,ii,hii,hsz,_⟩:=hti t i hi;cases hr:AR i.desc with
 | true=>
  refine⟨.agg vs,?_,fun _=>rfl,fun e=>by cases e⟩
  have:=run_loadAt_mid (P:=P) w b q t vs.toList i.desc (fun j v hv=>hc j v (by simpa using hv)) hu (by trivial) (by simp[hii,hsz,hs])
  simpa using this
 | false=>
  have e1:=h1 t i hi hr
  obtain⟨v,hv⟩:∃v,vs=#[v]:=by
   have:vs.size=1:=by omega
   exact⟨vs[0],by
    grind⟩
  subst hv;refine⟨v,?_,fun e=>(by cases e),fun _=>rfl⟩
  have hag:(isAgg t).run P w= .ok false w:=by
   unfold isAgg;rw[Sem.run_bind,run_underlying hu w];revert hr;cases i.desc<;>simp[AR]
  have:=hc 0 v rfl;simp only[Nat.add_zero]at this;simp[Instr.loadAt,Instr.sureAddr,loadVar,hag,this]
theorem PL (hti:Ay C.P ti) (h1:BH ti) (t:TypeId) (X:AV) (hk:D7 ti t X h k):∃out,k out∧out.wr=[]∧
  ∀F σs σh g a w u,AY C F σs σh g a w→An w (Av (zone g σh) C.X) g σh X u→(∀i∈out.rd,σh i=h i)→
   ∃v,(Instr.loadAt t u).run C.P w= .ok v w∧An w (Av (zone g σh) C.X) g σh out.val v:=by
 unfold D7 at hk;obtain⟨i,hi,hk2⟩:=AF.1 hk;clear hk
 have fin:∀(cs:List CV) (rd:List Id),cs.length=i.size→
   (∀F σs σh g a w u,AY C F σs σh g a w→An w (Av (zone g σh) C.X) g σh X u→(∀i∈rd,σh i=h i)→
    ∃b q,∃vs:Array Value,u= .pointer (some ⟨b,q,none⟩)∧vs.size=i.size∧(∀(j:Nat) u,vs[j]?=some u→w.cell? ⟨b,q+j,none⟩=some u)∧
     ∀(j:Nat) c u,cs[j]?=some c→vs[j]?=some u→BB w (Av (zone g σh) C.X) g σh c u)→
   ∀F σs σh g a w u,AY C F σs σh g a w→An w (Av (zone g σh) C.X) g σh X u→(∀i∈rd,σh i=h i)→
    ∃v,(Instr.loadAt t u).run C.P w= .ok v w∧An w (Av (zone g σh) C.X) g σh (.v (V1.Aa (AR i.desc) cs)) v:=by
  intro cs rd hl H F σs σh g a w u R hu hrd;obtain⟨b,q,vs,he,hvs,hc,hr⟩:=H F σs σh g a w u R hu hrd;obtain⟨v,hv,ha,hb⟩:=CJ (P:=C.P) (w:=w) hti h1 hi hvs hc;refine⟨v,by rw[he];exact hv,?_⟩
  have:=Ah.Aa (ag:=AR i.desc) (by omega) hr
  cases hrow:AR i.desc with
  | true=>rw[ha hrow];rw[hrow]at this;exact this.1 rfl
  | false=>rw[hrow]at this;exact this.2 rfl v (hb hrow)
 split at hk2
 ·rename_i id q;split at hk2
  ·rename_i cs hcs;obtain⟨hle,hk⟩:=AA.1 hk2;have hle:q+i.size≤cs.length:=by simpa using hle
   refine⟨_,hk,rfl,fin _ _ (by simp;omega) fun F σs σh g a w u R hv hrd=>?_⟩
   obtain⟨⟨b,hb⟩,hv⟩:=hv;rw[hb]at hv;have hh:σh id=some (.cells cs):=(hrd id (by simp)).trans hcs
   obtain⟨b',c,e,hg,hheap,hsz,hr⟩:=R.heap.objs id _ hh;rw[hb]at hg;obtain rfl:b=b':=by simpa using hg
   have hget:∀(j:Nat) u,(c.extract q (q+i.size))[j]?=some u→c[q+j]?=some u∧j<i.size:=by
    grind
   refine⟨b,q,c.extract q (q+i.size),hv,by simp;omega,fun j u hu=>?_,fun j x u hx' hu=>?_⟩
   ·rw[cell_of_row w b (q+j) c e (0,0) hheap];exact (hget j u hu).1
   grind
  ·exact hk2.elim
 ·rename_i ag sz d;obtain⟨hag,hk⟩:=AA.1 hk2;obtain⟨hsz,hk⟩:=AA.1 hk;have hag:AR i.desc=ag:=by simpa using hag
  have hsz:sz=i.size:=by simpa using hsz
  refine⟨_,hk,rfl,fun F σs σh g a w u R hv _=>?_⟩
  obtain⟨⟨f1,f2,f3⟩,b,q,hv,U,hU⟩:=hv
  let vs:Array Value:=((List.range d.cells.length).map U).toArray
  have hget:∀(j:Nat) u,vs[j]?=some u→∃c,d.cells[j]?=some c∧u=U j:=by
   intro j u hu;obtain⟨hlt,rfl⟩:=GW hu;exact⟨d.cells[j],by simp[hlt],rfl⟩
  obtain⟨v,hrun,ha,hb⟩:=CJ (P:=C.P) (w:=w) (vs:=vs) (b:=b) (q:=q) hti h1 hi (by simp[vs];omega) (fun j u hu=>by
   grind)
  refine⟨v,by rw[hv];exact hrun,?_⟩
  cases hrow:AR i.desc with
  | true=>
   rw[ha hrow];have hd:d.isAgg=true:=by rw[f1,←hag,hrow]
   obtain⟨cs,rfl⟩:∃cs,d= .agg cs:=by cases d<;>first | exact⟨_,rfl⟩ | simp[D.isAgg]at hd
   refine AZ.agg cs vs (by simp[vs,D.cells]) f3 (fun j c u hc hu=>?_)
   obtain⟨c',hc',rfl⟩:=hget j u hu;exact (hU j c hc).2.2
  | false=>
   have hd:d.isAgg=false:=by rw[f1,←hag,hrow]
   have hcell:d.cells=[d]:=by cases d<;>first | rfl | simp[D.isAgg]at hd
   have hvv:=hb hrow;obtain⟨c',hc',he⟩:=hget 0 v (by rw[hvv];rfl)
   rw[he];exact (hU 0 d (by rw[hcell];rfl)).2.2
 ·rename_i cs;obtain⟨hle,hk⟩:=AA.1 hk2;have hle:i.size≤cs.length:=by simpa using hle
  refine⟨_,hk,rfl,fin _ _ (by simp;omega) fun F σs σh g a w u R hv _=>?_⟩
  obtain⟨f1,b,q,hv,U,hU⟩:=hv;refine⟨b,q,((List.range i.size).map U).toArray,hv,by simp,fun j u hu=>?_,fun j c u hc hu=>?_⟩
  ·obtain⟨hlt,rfl⟩:=GW hu;exact (hU j cs[j] (by simp)).1
  ·obtain⟨hlt,rfl⟩:=GW hu;simp only[List.getElem?_map,List.getElem?_take,hlt,if_true,Option.map_eq_some_iff]at hc;obtain⟨d,hd,rfl⟩:=hc;exact⟨(hU j d hd).2.2,f1 d (List.mem_of_getElem? hd)⟩
 ·rename_i id base sz kk o;split at hk2
  rotate_left
  ·exact hk2.elim
  rename_i cs hcs;split at hk2
  rotate_left
  ·obtain⟨hs1,hk⟩:=AA.1 hk2;obtain⟨hs2,c0,hc0,hk⟩:=AA.1 hk;have hs1:=Nat.eq_of_beq_eq_true hs1;refine⟨_,hk,rfl,fin _ _ (by simp[hs1]) fun F σs σh g a w u R hv hrd=>?_⟩
   obtain⟨⟨b,hb⟩,hv⟩:=hv;rw[hb]at hv;have hh:σh id=some (.cells cs):=(hrd id (by simp)).trans hcs
   obtain⟨b',c,e,hg,hheap,hsz,hr⟩:=R.heap.objs id _ hh;rw[hb]at hg;obtain rfl:b=b':=by simpa using hg
   have hlt:=(List.getElem?_eq_some_iff.1 hc0).1;refine⟨b,base+(kk*sz+o),#[c[base+(kk*sz+o)]'(by omega)],hv,by simp[hs1],fun j u hu=>?_,fun j x u hx' hu=>?_⟩
   ·cases j with
    | zero=>
     simp at hu;subst hu;rw[cell_of_row w b _ c e (0,0) hheap];simp
    | succ j=>simp at hu
   grind
  rename_i ds hds;obtain⟨n,r,hn,hr0,hk2⟩:=hk2;obtain⟨hle,hk⟩:=AA.1 hk2;have hle:=Nat.le_of_ble_eq_true hle;have hn:=Nat.le_of_ble_eq_true hn;obtain⟨hkk,rfl⟩:=GR hr0;have hle:o+i.size≤((ds.drop (kk*sz)).take sz).length:=hle
  have hks:kk*sz+sz≤ds.length:=by
   have:=Nat.mul_le_mul_right sz (show kk+1≤n from hkk)
   grind
  have hle:o+i.size≤sz:=by simp at hle;omega
  have hrc:(rowOf true ((ds.drop (kk*sz)).take sz)).cells=(ds.drop (kk*sz)).take sz:=rfl;refine⟨_,hk,rfl,fin _ _ (by rw[hrc];simp;omega) fun F σs σh g a w u R hv hrd=>?_⟩
  obtain⟨al,ar⟩:=SL (w:=w) (Z:=Av (zone g σh) C.X) (g:=g) (h:=σh) hds;obtain⟨⟨b,hb⟩,hv⟩:=hv;rw[hb]at hv;have hh:σh id=some (.cells cs):=(hrd id (by simp)).trans hcs
  obtain⟨b',c,e,hg,hheap,hsz,hr⟩:=R.heap.objs id _ hh;rw[hb]at hg;obtain rfl:b=b':=by simpa using hg
  have hal:ds.length=cs.length - base:=by rw[al];simp
  obtain⟨q,hq⟩:∃q,q=base+(kk*sz+o):=⟨_,rfl⟩;rw[←hq]at hv
  have hget:∀(j:Nat) u,(c.extract q (q+i.size))[j]?=some u→c[q+j]?=some u∧j<i.size:=by
   grind
  refine⟨b,q,c.extract q (q+i.size),hv,by simp;omega,fun j u hu=>?_,fun j x u hx' hu=>?_⟩
  ·rw[cell_of_row w b (q+j) c e (0,0) hheap];exact (hget j u hu).1
  ·obtain⟨h1',h2'⟩:=hget j u hu;rw[hrc]at hx';simp only[List.getElem?_map,Option.map_eq_some_iff]at hx';obtain⟨d,hd,rfl⟩:=hx';rw[List.getElem?_take_of_lt h2',List.getElem?_drop,List.getElem?_take_of_lt (by omega),List.getElem?_drop]at hd
   have hlt:=(List.getElem?_eq_some_iff.1 hd).1;obtain⟨x0,hcj⟩:∃x0,cs[q+j]?=some x0:=⟨_,List.getElem?_eq_getElem (by omega)⟩
   have hdr:(cs.drop base)[kk*sz+(o+j)]?=some x0:=by
    grind
   exact ar _ _ _ _ hd hdr (hr (q+j) _ u hcj h1')
 ·rename_i id;obtain⟨hsz,hk⟩:=AA.1 hk2;have hsz:=Nat.eq_of_beq_eq_true hsz;refine⟨_,hk,rfl,fin _ _ (by simp[hsz]) fun F σs σh g a w u R hv _=>?_⟩
  obtain⟨b,u0,h1,h2,h3,h4⟩:=hv;refine⟨b,0,#[u0],h1,by simp[hsz],fun j u hu=>?_,fun j c u hc hu=>?_⟩
  ·grind
  ·cases j with
   | zero=>simp at hc hu;subst hc;subst hu;exact h4
   | succ j=>simp at hc
 ·exact hk2.elim
theorem nF (hti:Ay C.P ti) (h1:BH ti) (t:TypeId) (x:Operand) (ho:o.op= .load t x) (hk:D7 ti t (AX ti s 0 x) h k):∃out,k out∧BN C o fresh s h out:=by
 obtain⟨⟨val,rd,wr⟩,hko,hwr,H⟩:=PL (C:=C) hti h1 t _ hk;simp only[]at hwr;subst hwr;refine⟨_,hko,AE fun F σs σh g a w R hs hrd=>?_⟩
 have hx:=AI ti 0 x R (s:=s) (fun k hk=>hs k (by subst hk;simp[ho,Op.operands]))
 obtain⟨v,hv,hr⟩:=H F σs σh g a w _ R hx hrd;exact⟨v,by simp only[execOp,ho];exact BX hv,hr⟩
theorem BV (b q n:Nat):(⟨b,q,none⟩:Addr).add n=⟨b,q+n,none⟩:=by unfold Addr.add;split<;>simp_all
theorem Zi (hti:Ay C.P ti) (t:TypeId) (x y:Operand) (ho:o.op= .store t x y) (hd:o.dst=none) (hk:HE ti t (AX ti s 0 x) (AX ti s t y) h k):∃out,k out∧BN C o fresh s h out:=by
 unfold HE at hk;obtain⟨i,hi,hk⟩:=AF.1 hk;obtain⟨yv,hyv,hk⟩:=Cb.1 hk
 have main:∀(id:Id) (q:Nat) (cs:List CV),h id=some (.cells cs)→(∀{w:World} {Z:Ak} {g:AP} {σh:Heap} {u:Value},An w Z g σh (AX ti s 0 x) u→(∃b,g id= .pointer (some ⟨b,0,none⟩))∧u=CF (g id) q)→q+i.size≤cs.length→yv.cells.length=i.size→
   k ⟨.u,[id],[(id,.cells (cs.take q++yv.cells++cs.drop (q+i.size)))]⟩→∃out,k out∧BN C o fresh s h out:=by
  intro id q cs hcs hxr hle hlen hk;refine⟨_,hk,?_⟩
  rintro F σs σh a w Q ⟨g,R⟩ hs hrd hF _
  have hx:=AI ti 0 x R (s:=s) (fun k hk=>hs k (by subst hk;simp[ho,Op.operands]))
  have hy:=AI ti t y R (s:=s) (fun k hk=>hs k (by subst hk;simp[ho,Op.operands]))
  replace hx:=hxr hx;rw[hyv]at hy;obtain⟨⟨b,hb⟩,hx⟩:=hx;rw[hb]at hx;obtain⟨hy1,hy2⟩:=Ah.cells hy;have hh:σh id=some (.cells cs):=(hrd id (by simp)).trans hcs
  obtain⟨b',c,e,hg,hheap,hsz,hr⟩:=R.heap.objs id _ hh;rw[hb]at hg;obtain rfl:b=b':=by simpa using hg
  have hone:∀v∈(a.eval y).cells.toList,v.oneCell'=true:=by
   intro v hv;obtain⟨j,hj⟩:=List.mem_iff_getElem?.1 hv;have hlt:=(List.getElem?_eq_some_iff.1 hj).1;simp at hlt hj;exact BB.BR (hy2 j yv.cells[j] v (by simp) (by simpa using hj))
  have hst:=run_storeCells_at C.P b q e (a.eval y).cells.toList 0 c w hheap (by simp;omega) hone
  simp only[Nat.add_zero,Array.length_toList]at hst;obtain⟨_,ii,hii,hsi,_⟩:=hti t i hi
  have hrun:(execOp a.eval o).run C.P w= .ok .skip (w.setRow b (c.toList.take q++(a.eval y).cells.toList++c.toList.drop (q+(a.eval y).cells.size)).toArray):=by
   simp only[execOp,ho,hx,CF,Instr.storeAt,Instr.sureAddr,storeVar,sizeOf,typeInfo,Sem.run_bind,run_program,Result.andThen_ok,Sem.run_pure,hii,hsi,hy1,hlen];simp[hst];rw[hy1,hlen]
  unfold Oper.wp;rw[hrun]
  have R':=R.store (cs':=cs.take q++yv.cells++cs.drop (q+i.size)) (c':=(c.toList.take q++(a.eval y).cells.toList++c.toList.drop (q+(a.eval y).cells.size)).toArray) hh hb hheap
   (by simp;omega) (fun j z u hz hu=>?_)
  ·refine⟨g,?_⟩;rw[hd];exact (R'.put (dst:=none) (v:=.u) (u:=undef) (fun d e=>by cases e) trivial).Af (fun n hn=>hn.1)
  ·simp only[List.getElem?_toArray,List.append_assoc]at hu hz
   by_cases h1:j<q
   ·grind
   grind
 split at hk
 ·rename_i id q hop;split at hk
  ·rename_i cs hcs;obtain⟨hle,hk⟩:=AA.1 hk;obtain⟨hlen,hk⟩:=AA.1 hk;exact main id q cs hcs (fun hr=>by rw[hop]at hr;exact hr) (by simpa using hle) (by simpa using hlen) hk
  ·exact hk.elim
 ·rename_i id base sz kk oo hop;split at hk
  ·rename_i cs hcs;obtain⟨hlen,hk⟩:=AA.1 hk;obtain⟨hle,cs',rfl,hk⟩:=hk;exact main id _ cs hcs (fun hr=>by rw[hop]at hr;exact hr) hle (by simpa using hlen) hk
  ·exact hk.elim
 ·exact hk.elim
end
end Go.AM
namespace Go.AM
open Go Go.RowKit
section
variable {C:Cx}{ti:Types}{o:Oper}{fresh:Nat}{s:AL}{h:Heap}{k:Out→Prop}
section
variable {P:Program}{t:TypeId}
theorem Dr (hti:Ay P ti) {i:TI}(hi:ti t=some i) (w:World):(sizeOf t).run P w= .ok i.size w:=by
 obtain⟨_,ii,hii,hsi,_⟩:=hti t i hi;simp[sizeOf,typeInfo,hii,hsi]
theorem Cp (hti:Ay P ti) {i:TI}(hi:ti t=some i) (w:World):(underlying t).run P w= .ok i.desc w:=
 run_underlying (hti t i hi).1 w
theorem Zj (hti:Ay C.P ti) (t:TypeId) (x:Operand) (f:Nat) (ho:o.op= .fieldAddr t x f) (hk:HF ti t (AX ti s 0 x) f k):∃out,k out∧BN C o fresh s h out:=by
 unfold HF at hk;obtain⟨i,hi,hk⟩:=AF.1 hk;split at hk
 ·rename_i fs hfs;split at hk
  ·rename_i fd hfd;obtain⟨j,hj,hk⟩:=AF.1 hk;obtain⟨hpos,hk⟩:=AA.1 hk
   have hpos:j.size≠0:=by
    have:0<j.size:=by simpa using hpos
    omega
   have hrun:∀(b q:Nat) (a:Act) (w:World),a.eval x= .pointer (some ⟨b,q,none⟩)→
     (execOp a.eval o).run C.P w= .ok (.value (.pointer (some ⟨b,q+fd.offset,none⟩))) w:=by
    intro b q a w he;have h1:=Cp hti hi w;rw[hfs]at h1;have h2:=Dr hti hj w;simp only[execOp,ho,he];refine BX ?_;simp[Instr.fieldAt,h1,hfd,Instr.sureAddr,fieldPlace,h2,hpos,BV]
   have hx:=fun (F:Nat→Prop) (σs:AL) (σh:Heap) (g:AP) (a:Act) (w:World) (R:AY C F σs σh g a w) (hs:∀t,Operand.tmp t∈o.op.operands.toList→σs t=s t)=>
    AI ti 0 x R (s:=s) (fun k hk=>hs k (by subst hk;simp[ho,Op.operands]))
   split at hk
   ·rename_i id q hop;refine⟨_,hk,AE fun F σs σh g a w R hs _=>?_⟩
    have hv:=hx F σs σh g a w R hs;rw[hop]at hv;obtain⟨⟨b,hb⟩,hv⟩:=hv;rw[hb]at hv;exact⟨_,hrun b q a w hv,⟨b,hb⟩,by rw[hb];rfl⟩
   ·rename_i ag sz d hop;refine⟨_,hk,AE fun F σs σh g a w R hs _=>?_⟩
    have hv:=hx F σs σh g a w R hs;rw[hop]at hv;obtain⟨hf,b,q,hv,U,hU⟩:=hv;refine⟨_,hrun b q a w hv,fun c hc=>hf.2.2 c (List.mem_of_mem_drop hc),b,_,rfl,fun n=>U (fd.offset+n),fun n c hc=>?_⟩
    grind
   ·rename_i cs hop;refine⟨_,hk,AE fun F σs σh g a w R hs _=>?_⟩
    have hv:=hx F σs σh g a w R hs;rw[hop]at hv;obtain⟨hf,b,q,hv,U,hU⟩:=hv;refine⟨_,hrun b q a w hv,fun c hc=>hf c (List.mem_of_mem_drop hc),b,_,rfl,fun n=>U (fd.offset+n),fun n c hc=>?_⟩
    grind
   ·rename_i id bs sz kk q hop;refine⟨_,hk,AE fun F σs σh g a w R hs _=>?_⟩
    have hv:=hx F σs σh g a w R hs;rw[hop]at hv;obtain⟨⟨b,hb⟩,hv⟩:=hv;rw[hb]at hv;refine⟨_,hrun b _ a w hv,⟨b,hb⟩,?_⟩;rw[hb];show Value.pointer (some ⟨b,bs+(kk*sz+q)+fd.offset,none⟩)=Value.pointer (some ⟨b,bs+(kk*sz+(q+fd.offset)),none⟩);simp_all
   ·exact hk.elim
  ·exact hk.elim
 ·exact hk.elim
variable {v:Value}
theorem Jp {w:World}{Z:Ak}{ag:Bool}{sz:Nat}{rows:List D}(r:AZ w Z (.list ag sz rows) v):
  ∃a cap,v= .slice a rows.length cap∧rows.length≤cap∧cap≤maxLen∧(∀r∈rows,r.fits ag sz)∧
   ∃b o,(rows≠[]→a=some ⟨b,o,none⟩)∧∃U:Nat→Nat→Value,∀(i:Nat) r (j:Nat) c,rows[i]?=some r→r.cells[j]?=some c→
    w.cell? ⟨b,o+(i*sz+j),none⟩=some (U i j)∧¬Z b (o+(i*sz+j))∧AZ w Z c (U i j):=by
 cases r with
 | list ag sz rows a cap b o U hcap hmax hfit ha hc hr=>
  exact⟨a,cap,rfl,hcap,hmax,hfit,b,o,ha,U,fun i r j c h1 h2=>⟨(hc i r j c h1 h2).1,(hc i r j c h1 h2).2,hr i r j c h1 h2⟩⟩
theorem Zk (hti:Ay C.P ti) (t:TypeId) (x y:Operand) (ho:o.op= .indexAddr t x y) (hk:Eu ti t (AX ti s t x) (AX ti s 3 y) k):∃out,k out∧BN C o fresh s h out:=by
 unfold Eu at hk;obtain⟨q,n,hyv,hk⟩:=CH.1 hk;obtain⟨i,hi,hk⟩:=AF.1 hk
 have hx:=fun (F:Nat→Prop) (σs:AL) (σh:Heap) (g:AP) (a:Act) (w:World) (R:AY C F σs σh g a w) (hs:∀t,Operand.tmp t∈o.op.operands.toList→σs t=s t)=>
  And.intro (AI ti t x R (s:=s) (fun k hk=>hs k (by subst hk;simp[ho,Op.operands]))) (AI ti 3 y R (s:=s) (fun k hk=>hs k (by subst hk;simp[ho,Op.operands])))
 split at hk
 ·rename_i e hdesc;obtain⟨j,hj,hk⟩:=AF.1 hk;split at hk
  ·rename_i id len hop;obtain⟨p,⟨hnp,hp⟩,hk⟩:=hk;refine⟨_,hk,AE fun F σs σh g a w R hs _=>?_⟩
   subst hnp;obtain⟨hv,hn⟩:=hx F σs σh g a w R hs;rw[hyv]at hn;have hn:=Ey hn;rw[hop]at hv;obtain⟨⟨b,hb⟩,hv⟩:=hv;rw[hb]at hv;have hv:a.eval x= .slice (some ⟨b,0,none⟩) len len:=hv;have h1:=Cp hti hi w;rw[hdesc]at h1;have h2:=Dr hti hj w;refine⟨.pointer (some ⟨b,p*j.size,none⟩),?_,⟨⟨b,hb⟩,by rw[hb];simp[CF]⟩⟩
   have hp':(p:Int)<(len:Int):=Int.ofNat_lt.2 hp;simp only[execOp,ho];refine BX ?_;simp[Instr.indexAt,asIntOf,h1,h2,hv,hn,hp,BV,Instr.sureAddr]
  obtain⟨ag,sz,rows,hrel,hk⟩:=En hk;obtain⟨hag,hk⟩:=AA.1 hk;obtain⟨hsz,hk⟩:=AA.1 hk;obtain⟨r,h0,hr,hk⟩:=hk;have hsz:sz=j.size:=by simpa using hsz
  subst hsz;refine⟨_,hk,AE fun F σs σh g a w R hs _=>?_⟩
  obtain⟨hv,hn⟩:=hx F σs σh g a w R hs;rw[hyv]at hn;have hn:=Ey hn;obtain⟨A,cap,hv,hcap,hmax,hfit,b,o',hA,U,hU⟩:=Jp (hrel hv);have hlt:n.toNat<rows.length:=(List.getElem?_eq_some_iff.1 hr).1;have hA:=hA (by grind)
  subst hA;refine⟨.pointer (some ⟨b,o'+n.toNat*j.size,none⟩),?_,hfit r (List.mem_of_getElem? hr),b,_,rfl,fun c=>U n.toNat c,fun c z hz=>?_⟩
  ·have h1:=Cp hti hi w;rw[hdesc]at h1;have h2:=Dr hti hj w;simp only[execOp,ho,hv,hn];refine BX ?_;have h3:0≤n∧n<(rows.length:Int):=by omega
   simp[Instr.indexAt,asIntOf,h1,h2,h3,BV]
  grind
 ·rename_i len e hdesc;obtain⟨j,hj,hk⟩:=AF.1 hk;split at hk
  ·rename_i id q' hop;obtain⟨h0,hl,c,hk⟩:=hk;cases c with
   | false=>
    refine⟨_,hk,AE fun F σs σh g a w R hs _=>?_⟩
    obtain⟨hv,hn⟩:=hx F σs σh g a w R hs;rw[hyv]at hn;have hn:=Ey hn;rw[hop]at hv;obtain⟨⟨b,hb⟩,hv⟩:=hv;rw[hb]at hv;refine⟨.pointer (some ⟨b,q'+n.toNat*j.size,none⟩),?_,⟨b,hb⟩,by rw[hb];rfl⟩
    have h1:=Cp hti hi w;rw[hdesc]at h1;have h2:=Dr hti hj w;simp only[execOp,ho,hv,hn,CF];refine BX ?_;simp[Instr.indexAt,asIntOf,h1,h2,h0,hl,BV,Instr.sureAddr]
   | true=>
   refine⟨_,hk,AE fun F σs σh g a w R hs _=>?_⟩
   obtain⟨hv,hn⟩:=hx F σs σh g a w R hs;rw[hyv]at hn;have hn:=Ey hn;rw[hop]at hv;obtain⟨⟨b,hb⟩,hv⟩:=hv;rw[hb]at hv;refine⟨.pointer (some ⟨b,q'+n.toNat*j.size,none⟩),?_,⟨b,hb⟩,by rw[hb];rfl⟩
   have h1:=Cp hti hi w;rw[hdesc]at h1;have h2:=Dr hti hj w;simp only[execOp,ho,hv,hn,CF];refine BX ?_;simp[Instr.indexAt,asIntOf,h1,h2,h0,hl,BV,Instr.sureAddr]
  ·exact hk.elim
 ·exact hk.elim
theorem tQ (hti:Ay C.P ti) (t:TypeId) (x:Operand) (ho:o.op= .call {callee:=.builtin .len,args:=#[x],argTypes:=#[t]}) (hk:Mp C.M ti t (AX ti s t x) k):∃out,k out∧BN C o fresh s h out:=by
 unfold Mp at hk;obtain⟨i,hi,hk⟩:=AF.1 hk
 have hx:=fun (F:Nat→Prop) (σs:AL) (σh:Heap) (g:AP) (a:Act) (w:World) (R:AY C F σs σh g a w) (hs:∀t,Operand.tmp t∈o.op.operands.toList→σs t=s t)=>
  AI ti t x R (s:=s) (fun k hk=>hs k (by subst hk;simp[ho,Op.operands,Call.operands]))
 split at hk
 ·rename_i e hdesc;split at hk
  ·rename_i id n hop;obtain⟨z,hz,hk⟩:=hk;refine⟨_,hk,AE fun F σs σh g a w R hs _=>?_⟩
   have hv:=hx F σs σh g a w R hs;rw[hop]at hv;obtain⟨⟨b,hb⟩,hv⟩:=hv;rw[hb]at hv;have hv:a.eval x= .slice (some ⟨b,0,none⟩) n n:=hv;refine⟨.int .i64 z,?_,.int _ _⟩;have h1:=Cp hti hi w;rw[hdesc]at h1;simp[execOp,ho,resolve,invoke,builtin,Builtin.len_,h1,hv,goInt,hz]
  obtain⟨ag,sz,rows,hrel,z,hz,hk⟩:=En hk;refine⟨_,hk,AE fun F σs σh g a w R hs _=>?_⟩
  obtain⟨A,cap,hv,_⟩:=Jp (hrel (hx F σs σh g a w R hs));rw[←hz,C.M.lenI_eq];refine⟨.int .i64 rows.length,?_,.int _ _⟩;have h1:=Cp hti hi w;rw[hdesc]at h1;simp[execOp,ho,resolve,invoke,builtin,Builtin.len_,h1,hv,goInt]
 ·rename_i hdesc;split at hk
  ·rename_i b hop;obtain⟨z,hz,hk⟩:=hk;refine⟨_,hk,AE fun F σs σh g a w R hs _=>?_⟩
   have hv:=hx F σs σh g a w R hs;rw[hop]at hv;have hv:=SP hv;rw[←hz,C.M.szI_eq];refine⟨.int .i64 b.size,?_,.int _ _⟩;have h1:=Cp hti hi w;rw[hdesc]at h1;simp[execOp,ho,resolve,invoke,builtin,Builtin.len_,h1,hv,goInt]
  ·exact hk.elim
 ·rename_i n e hdesc;refine⟨_,hk,AE fun F σs σh g a w R hs _=>?_⟩
  refine⟨.int .i64 n,?_,.int _ _⟩;have h1:=Cp hti hi w;rw[hdesc]at h1;simp[execOp,ho,resolve,invoke,builtin,Builtin.len_,h1,goInt]
 ·exact hk.elim
theorem Ei (b:Bool):DC b=!b:=by cases b<;>rfl
theorem MT (a b:Bool):tN a b=(a==b):=by cases a<;>cases b<;>rfl
theorem AAc (op:UnOp) (t:TypeId) (x:Operand) (ho:o.op= .unOp op t x) (hk:XG op (AX ti s o.type x) k):∃out,k out∧BN C o fresh s h out:=by
 unfold XG at hk
 have hx:=fun (F:Nat→Prop) (σs:AL) (σh:Heap) (g:AP) (a:Act) (w:World) (R:AY C F σs σh g a w) (hs:∀t,Operand.tmp t∈o.op.operands.toList→σs t=s t)=>
  AI ti o.type x R (s:=s) (fun k hk=>hs k (by subst hk;simp[ho,Op.operands]))
 split at hk
 ·rename_i b hop;obtain⟨q,rfl,hk⟩:=hk;refine⟨_,hk,AE fun F σs σh g a w R hs _=>?_⟩
  have hv:=hx F σs σh g a w R hs;rw[hop]at hv;have hv:=QQ hv;rw[Ei];exact⟨.bool !b,by simp[execOp,ho,hv,Op.unary],.bool _⟩
 ·rename_i q n hop;obtain⟨z,rfl,hk⟩:=hk;refine⟨_,hk,AE fun F σs σh g a w R hs _=>?_⟩
  have hv:=hx F σs σh g a w R hs;rw[hop]at hv;have hv:=Ey hv;exact⟨.int q (q.wrap (0 - n)),by simp[execOp,ho,hv,Op.unary,Op.intArith],.int _ _⟩
 ·exact hk.elim
theorem SS (x:Operand) (ho:o.op= .nilCheck x) {i:Id}{q:Nat}(hop:AX ti s 0 x= .v (.c (.ptr i q))):BN C o fresh s h ⟨.v (.c (.ptr i q)),[],[]⟩:=by
 refine AE fun F σs σh g a w R hs _=>?_
 have hv:=AI ti 0 x R (s:=s) (fun k hk=>hs k (by subst hk;simp[ho,Op.operands]))
 rw[hop]at hv;have hv':=hv;obtain⟨⟨b,hb⟩,hv⟩:=hv;rw[hb]at hv;exact⟨a.eval x,by simp[execOp,ho,hv,CF],hv'⟩
theorem Zl {w:World}{Z:Ak}{g:AP}{h:Heap}{xs:List AV}{vs:List Value}{l:List Id}(he:Cn xs=some l) (hl:vs.length=xs.length)
  (hr:∀(j:Nat) x v,xs[j]?=some x→vs[j]?=some v→An w Z g h x v):vs=l.map (fun i=>CF (g i) 0)∧∀i∈l,∃b,g i= .pointer (some ⟨b,0,none⟩):=by
 induction xs generalizing vs l with
 | nil=>
  simp[Cn]at he;simp_all
 | cons x xs ih=>
  match vs,hl with
  | v::vs,hl=>
   unfold Cn at he;split at he
   ·rename_i e;simp at e
   ·rename_i i r e;simp at e;obtain⟨rfl,rfl⟩:=e;split at he
    ·rename_i l' hl';simp at he;subst he;obtain⟨h1,h2⟩:=ih hl' (by simpa using hl) (fun j x v hx hv=>hr (j+1) x v (by simpa using hx) (by simpa using hv))
     obtain⟨hb,hv⟩:=hr 0 _ v rfl rfl;grind
    ·simp at he
   ·simp at he
theorem SU (fn:Fn) (first captured:Array Operand) (ho:o.op= .makeFunc fn first captured) {f:Nat}(hf:fn= .func f) (hfi:first.toList=[]) {l:List Id}
  (hl:Cn (captured.toList.map (AX ti s 0))=some l):BN C o fresh s h ⟨.v (.c (.fn f l)),[],[]⟩:=by
 refine AE fun F σs σh g a w R hs _=>?_
 have hfi:first=#[]:=by simpa using hfi
 subst hfi
 have:=Zl (w:=w) (Z:=Av (zone g σh) C.X) (g:=g) (h:=σh) (vs:=captured.toList.map a.eval) hl (by simp) (fun j x v hx hv=>by
  simp only[List.getElem?_map,Option.map_eq_some_iff]at hx hv;obtain⟨p,hp,rfl⟩:=hx;obtain⟨p',hp',rfl⟩:=hv;rw[hp]at hp';obtain rfl:p=p':=by simpa using hp'
  refine AI ti 0 p R (s:=s) (fun k hk=>hs k ?_)
  subst hk;have:=List.mem_of_getElem? hp;simp only[ho,Op.operands];simpa using this)
 refine⟨.func (.func f) #[] (captured.map a.eval),by simp[execOp,ho,hf,Instr.makeFunc],?_,this.2⟩
 rw[←this.1];apply congrArg;apply Array.ext';simp
theorem YH (fn:Fn) (first captured:Array Operand) (ho:o.op= .makeFunc fn first captured) {f:Nat}(hf:fn= .func f) {x:Operand}(hfi:first.toList=[x]) (hl:captured.toList=[]) {i:Id}
  (hx:AX ti s 0 x= .v (.c (.ptr i 0))):BN C o fresh s h ⟨.v (.c (.bm f i)),[],[]⟩:=by
 refine AE fun F σs σh g a w R hs _=>?_
 have hfi:first=#[x]:=by
  grind
 have hl:captured=#[]:=by simpa using hl
 subst hfi;subst hl;have r:=AI ti 0 x R (s:=s) (fun k hk=>hs k (by subst hk;simp[ho,Op.operands]))
 rw[hx]at r;obtain⟨⟨b,hb⟩,hv⟩:=r;refine⟨.func (.func f) #[a.eval x] #[],by simp[execOp,ho,hf,Instr.makeFunc],⟨b,hb⟩,?_⟩
 rw[hv]
theorem MJ (h:P.underlying t=some .bool) (a b:Bool) (w:World) (d:Nat):(Op.equalIn (d+1) t (.bool a) (.bool b)).run P w= .ok (a==b) w:=by
 simp[Op.equalIn,run_underlying h w]
variable {e:TypeId}
theorem Oo (h:P.underlying t=some (.pointer e)) (a:Option Addr) (w:World) (d:Nat):(Op.equalIn (d+1) t (.pointer a) (.pointer none)).run P w= .ok a.isNone w:=by
 cases a<;>simp[Op.equalIn,run_underlying h w]
theorem Oq {k:TypeId}(h:P.underlying t=some (.map k e)) (a:Option Nat) (w:World) (d:Nat):(Op.equalIn (d+1) t (.map a) (.map none)).run P w= .ok a.isNone w:=by
 cases a<;>simp[Op.equalIn,run_underlying h w]
theorem run_equal_bool (h:P.underlying t=some .bool) (a b:Bool) (w:World):(Op.equal t (.bool a) (.bool b)).run P w= .ok (a==b) w:=
 MJ h a b w 9999
theorem Ej (h:P.underlying t=some (.pointer e)) (a:Option Addr) (w:World):(Op.equal t (.pointer a) (.pointer none)).run P w= .ok a.isNone w:=
 Oo h a w 9999
theorem Ek {k:TypeId}(h:P.underlying t=some (.map k e)) (a:Option Nat) (w:World):(Op.equal t (.map a) (.map none)).run P w= .ok a.isNone w:=
 Oq h a w 9999
variable {q:Bool}{u:Value}
theorem Mx (h:Mq u v=some q):(u= .nilIface∧v= .nilIface∧q=true)∨∃t x,u= .iface t x∧v= .nilIface∧q=false:=by
 unfold Mq at h;grind
variable {want:Array (String×TypeId)}
theorem Ot (h:P.underlying t=some (.interface want)) (hq:Mq u v=some q) (w:World) (n:Nat):(Op.equalIn (n+1) t u v).run P w= .ok q w:=by
 unfold Mq at hq;split at hq
 ·cases hq;simp[Op.equalIn,run_underlying h]
 ·cases hq;simp[Op.equalIn,run_underlying h]
 ·cases hq
theorem QV (h:P.underlying t=some (.interface want)) (he:want.isEmpty=true) (w:World) (n:Nat):(Op.eqGuardIn (n+1) t .nilIface .nilIface).run P w= .ok false w:=by
 simp[Op.eqGuardIn,run_underlying h,he]
theorem Jq (h:P.underlying t=some (.interface want)) (hq:Mq u v=some q) (w:World):(Op.equal t u v).run P w= .ok q w:=
 Ot h hq w 9999
theorem tR (hti:Ay C.P ti) (op:BinOp) (t t':TypeId) (x y:Operand) (ho:o.op= .binOp op t x y t') (hk:QN C.M ti op t (AX ti s t x) (AX ti s t y) k):∃out,k out∧BN C o fresh s h out:=by
  have hx:=fun (F:Nat→Prop) (σs:AL) (σh:Heap) (g:AP) (a:Act) (w:World) (R:AY C F σs σh g a w) (hs:∀t,Operand.tmp t∈o.op.operands.toList→σs t=s t)=>
    And.intro (AI ti t x R (s:=s) (fun k hk=>hs k (by subst hk;simp[ho,Op.operands]))) (AI ti t y R (s:=s) (fun k hk=>hs k (by subst hk;simp[ho,Op.operands])))
  unfold QN at hk;simp only[]at hk;split at hk
  · rename_i q n q' m hop hop'
    obtain⟨hq,hk2⟩:=AA.1 hk;clear hk;obtain rfl:q=q':=by simpa using hq
    have fin:∀(d:D) (v:Value),(∀(a:Act) (w:World),a.eval x= .int q n→a.eval y= .int q m→(execOp a.eval o).run C.P w= .ok (.value v) w)→(∀w Z,AZ w Z d v)→BN C o fresh s h ⟨.v (.d d),[],[]⟩:=by
      intro d v H1 H2;refine AE fun F σs σh g a w R hs _=>?_
      obtain⟨h1,h2⟩:=hx F σs σh g a w R hs;rw[hop]at h1;rw[hop']at h2;exact⟨v,H1 a w (Ey h1) (Ey h2),H2 _ _⟩
    unfold Jm at hk2;split at hk2
    all_goals first
      | exact hk2.elim
      | (obtain⟨z,hz,hk3⟩:=hk2
         subst hz;exact⟨_,hk3,fin _ _ (fun a w h1 h2=>by (simp[execOp,ho,h1,h2,eqGuard,binOp,Op.intArith];try rfl)) (fun _ _=>.int _ _)⟩)
      | (obtain⟨z,hne,hz,hk3⟩:=hk2
         subst hz;exact⟨_,hk3,fin _ _ (fun a w h1 h2=>by (simp[execOp,ho,h1,h2,eqGuard,binOp,Op.intDiv,hne];try rfl)) (fun _ _=>.int _ _)⟩)
      | exact⟨_,(C.M.split_iff _ _).1 hk2,by
          simp only[Ei,C.M.eqI_eq,C.M.ltI_eq,C.M.leI_eq];exact fin _ _ (fun a w h1 h2=>by (simp[execOp,ho,h1,h2,eqGuard,binOp,Op.intCmp];try rfl)) (fun _ _=>.bool _)⟩
  · rename_i b b' hop hop'
    have fin:∀(d:D) (v:Value),(∀(a:Act) (w:World),a.eval x= .string b→a.eval y= .string b'→(execOp a.eval o).run C.P w= .ok (.value v) w)→(∀w Z,AZ w Z d v)→BN C o fresh s h ⟨.v (.d d),[],[]⟩:=by
      intro d v H1 H2;refine AE fun F σs σh g a w R hs _=>?_
      obtain⟨h1,h2⟩:=hx F σs σh g a w R hs;rw[hop]at h1;rw[hop']at h2;exact⟨v,H1 a w (SP h1) (SP h2),H2 _ _⟩
    unfold SM at hk;split at hk
    · obtain⟨cc,rfl,hsz,hk⟩:=hk
      refine⟨_,hk,fin _ (.string (b++b')) (fun a w h1 h2=>?_) (fun _ _=>.str _)⟩
      have:¬((b.size:Int)+b'.size>IntKind.i64.max):=by simpa using hsz
      simp[execOp,ho,h1,h2,eqGuard,binOp,Op.stringOp];simp_all
    · exact⟨_,(C.M.split_iff _ _).1 hk,by
          simp only[Ei,C.M.eqS_eq,C.M.ltS_eq];exact fin _ _ (fun a w h1 h2=>by (simp[execOp,ho,h1,h2,eqGuard,binOp,Op.stringOp];try rfl)) (fun _ _=>.bool _)⟩
    · exact⟨_,(C.M.split_iff _ _).1 hk,by
          simp only[Ei,C.M.eqS_eq,C.M.ltS_eq];exact fin _ _ (fun a w h1 h2=>by (simp[execOp,ho,h1,h2,eqGuard,binOp,Op.stringOp];try rfl)) (fun _ _=>.bool _)⟩
    · exact⟨_,(C.M.split_iff _ _).1 hk,by
          simp only[Ei,C.M.eqS_eq,C.M.ltS_eq];exact fin _ _ (fun a w h1 h2=>by (simp[execOp,ho,h1,h2,eqGuard,binOp,Op.stringOp];try rfl)) (fun _ _=>.bool _)⟩
    · exact hk.elim
  all_goals first
    | exact hk.elim
    | skip
  · rename_i b b' hop hop'
    obtain⟨i,hi,hk⟩:=AF.1 hk;split at hk
    · rename_i hdesc
      have hu:=(hti t i hi).1;rw[hdesc]at hu;split at hk
      · obtain⟨q,rfl,hk⟩:=hk
        refine⟨_,hk,AE fun F σs σh g a w R hs _=>?_⟩
        obtain⟨h1,h2⟩:=hx F σs σh g a w R hs;rw[hop]at h1;rw[hop']at h2;rw[MT];exact⟨.bool (b==b'),by simp[execOp,ho,QQ h1,QQ h2,eqGuard,binOp,run_equal_bool hu],.bool _⟩
      · obtain⟨q,rfl,hk⟩:=hk
        refine⟨_,hk,AE fun F σs σh g a w R hs _=>?_⟩
        obtain⟨h1,h2⟩:=hx F σs σh g a w R hs;rw[hop]at h1;rw[hop']at h2;rw[Ei,MT];exact⟨.bool (!(b==b')),by simp[execOp,ho,QQ h1,QQ h2,eqGuard,binOp,run_equal_bool hu],.bool _⟩
      · exact hk.elim
    · exact hk.elim
  · rename_i id q hop hop'
    obtain⟨i,hi,hk⟩:=AF.1 hk;split at hk
    · rename_i e hdesc
      have hu:=(hti t i hi).1;rw[hdesc]at hu
      have fin:∀F σs σh g a w,AY C F σs σh g a w→(∀t,Operand.tmp t∈o.op.operands.toList→σs t=s t)→∃A,a.eval x= .pointer (some A)∧a.eval y= .pointer none:=by
        intro F σs σh g a w R hs;obtain⟨h1,h2⟩:=hx F σs σh g a w R hs;rw[hop]at h1;rw[hop']at h2;obtain⟨⟨b,hb⟩,h1⟩:=h1;rw[hb]at h1;exact⟨_,h1,h2⟩
      unfold G4 at hk;split at hk
      · refine⟨_,hk,AE fun F σs σh g a w R hs _=>?_⟩
        obtain⟨A,h1,h2⟩:=fin F σs σh g a w R hs;exact⟨.bool false,by simp[execOp,ho,h1,h2,eqGuard,binOp,Ej hu],.bool _⟩
      · refine⟨_,hk,AE fun F σs σh g a w R hs _=>?_⟩
        obtain⟨A,h1,h2⟩:=fin F σs σh g a w R hs;exact⟨.bool true,by simp[execOp,ho,h1,h2,eqGuard,binOp,Ej hu],.bool _⟩
      · exact hk.elim
    · exact hk.elim
  · rename_i hop hop'
    obtain⟨i,hi,hk⟩:=AF.1 hk;split at hk
    · rename_i e hdesc
      have hu:=(hti t i hi).1;rw[hdesc]at hu;unfold G4 at hk;split at hk
      · refine⟨_,hk,AE fun F σs σh g a w R hs _=>?_⟩
        obtain⟨h1,h2⟩:=hx F σs σh g a w R hs;rw[hop]at h1;rw[hop']at h2;exact⟨.bool true,by simp[execOp,ho,show a.eval x=_ from h1,show a.eval y=_ from h2,eqGuard,binOp,Ej hu],.bool _⟩
      · refine⟨_,hk,AE fun F σs σh g a w R hs _=>?_⟩
        obtain⟨h1,h2⟩:=hx F σs σh g a w R hs;rw[hop]at h1;rw[hop']at h2;exact⟨.bool false,by simp[execOp,ho,show a.eval x=_ from h1,show a.eval y=_ from h2,eqGuard,binOp,Ej hu],.bool _⟩
      · exact hk.elim
    · exact hk.elim
  · rename_i id hop hop'
    obtain⟨i,hi,hk⟩:=AF.1 hk;split at hk
    · rename_i kt e hdesc
      have hu:=(hti t i hi).1;rw[hdesc]at hu
      have fin:∀F σs σh g a w,AY C F σs σh g a w→(∀t,Operand.tmp t∈o.op.operands.toList→σs t=s t)→∃A,a.eval x= .map (some A)∧a.eval y= .map none:=by
        intro F σs σh g a w R hs;obtain⟨h1,h2⟩:=hx F σs σh g a w R hs;rw[hop]at h1;rw[hop']at h2;obtain⟨h1,b,hb⟩:=h1;rw[hb]at h1;exact⟨_,h1,h2⟩
      unfold G4 at hk;split at hk
      · refine⟨_,hk,AE fun F σs σh g a w R hs _=>?_⟩
        obtain⟨A,h1,h2⟩:=fin F σs σh g a w R hs;exact⟨.bool false,by simp[execOp,ho,h1,h2,eqGuard,binOp,Ek hu],.bool _⟩
      · refine⟨_,hk,AE fun F σs σh g a w R hs _=>?_⟩
        obtain⟨A,h1,h2⟩:=fin F σs σh g a w R hs;exact⟨.bool true,by simp[execOp,ho,h1,h2,eqGuard,binOp,Ek hu],.bool _⟩
      · exact hk.elim
    · exact hk.elim
  · rename_i hop hop'
    obtain⟨i,hi,hk⟩:=AF.1 hk;split at hk
    · rename_i kt e hdesc
      have hu:=(hti t i hi).1;rw[hdesc]at hu;unfold G4 at hk;split at hk
      · refine⟨_,hk,AE fun F σs σh g a w R hs _=>?_⟩
        obtain⟨h1,h2⟩:=hx F σs σh g a w R hs;rw[hop]at h1;rw[hop']at h2;exact⟨.bool true,by simp[execOp,ho,show a.eval x=_ from h1,show a.eval y=_ from h2,eqGuard,binOp,Ek hu],.bool _⟩
      · refine⟨_,hk,AE fun F σs σh g a w R hs _=>?_⟩
        obtain⟨h1,h2⟩:=hx F σs σh g a w R hs;rw[hop]at h1;rw[hop']at h2;exact⟨.bool false,by simp[execOp,ho,show a.eval x=_ from h1,show a.eval y=_ from h2,eqGuard,binOp,Ek hu],.bool _⟩
      · exact hk.elim
    · exact hk.elim
  · rename_i u v hop hop'
    obtain⟨i,hi,hk⟩:=AF.1 hk;split at hk
    · rename_i want hdesc
      have hu:=(hti t i hi).1;rw[hdesc]at hu;obtain⟨hem,hk⟩:=AA.1 hk;have hgd:∀w,(Op.eqGuardIn Op.maxDepth t .nilIface .nilIface).run C.P w= .ok false w:=fun w=>QV hu hem w 9999
      split at hk
      · rename_i q hq
        unfold G4 at hk;split at hk
        · refine⟨_,hk,AE fun F σs σh g a w R hs _=>?_⟩
          obtain⟨h1,h2⟩:=hx F σs σh g a w R hs;rw[hop]at h1;rw[hop']at h2;have h1:a.eval x=u:=h1.1;have h2:a.eval y=v:=h2.1;refine⟨.bool q,?_,.bool _⟩;have:=Jq hu hq w;rcases Mx hq with⟨rfl,rfl,rfl⟩ | ⟨t1,x1,rfl,rfl,rfl⟩
          · cases hxc:(match x with | .const _=>true | _=>false)<;>cases hyc:(match y with | .const _=>true | _=>false)<;>simp[execOp,ho,h1,h2,eqGuard,binOp,this,hgd,hxc,hyc]
          · simp[execOp,ho,h1,h2,eqGuard,binOp,this]
        · refine⟨_,hk,AE fun F σs σh g a w R hs _=>?_⟩
          obtain⟨h1,h2⟩:=hx F σs σh g a w R hs;rw[hop]at h1;rw[hop']at h2;have h1:a.eval x=u:=h1.1;have h2:a.eval y=v:=h2.1;refine⟨.bool (DC q),?_,.bool _⟩;have:=Jq hu hq w;rw[Ei];rcases Mx hq with⟨rfl,rfl,rfl⟩ | ⟨t1,x1,rfl,rfl,rfl⟩
          · cases hxc:(match x with | .const _=>true | _=>false)<;>cases hyc:(match y with | .const _=>true | _=>false)<;>simp[execOp,ho,h1,h2,eqGuard,binOp,this,hgd,hxc,hyc]
          · simp[execOp,ho,h1,h2,eqGuard,binOp,this]
        · exact hk.elim
      · exact hk.elim
    · exact hk.elim
end
end
end Go.AM
namespace Go.AM
open Go Go.RowKit
section
variable {C:Cx}{F:Nat→Prop}{s:AL}{h:Heap}{g:AP}{a:Act}{w:World}{ti:Types}
theorem Kk {x:AV}{K:Id→Kd→Bool→Nat→List D→Option (Nat×List CV)→Nat→Nat→Prop}(hk:Mw x h K):
  ∃id kd ag sz rows foc kk o,h id=some (.tree kd ag sz rows foc)∧kd.isM=false∧kd.IT=false∧K id kd ag sz rows foc kk o∧
   ∀{w:World} {Z:Ak} {g:AP} {σh:Heap} {u:Value},DA w C.X g σh→σh id=some (.tree kd ag sz rows foc)→An w Z g σh x u→∃b,blk (gval (g id))=some b∧u= .pointer (some ⟨b,kk*sz+o,none⟩):=by
 unfold Mw at hk;split at hk
 ·rename_i id sz kk o;split at hk
  ·rename_i kd ag sz' rows foc hi;replace hk:=AA.1 hk;obtain⟨h1,hk⟩:=hk;replace hk:=AA.1 hk;obtain⟨h2,hk⟩:=hk;replace h1:=Nat.eq_of_beq_eq_true h1;subst h1;refine⟨id,kd,ag,sz',rows,foc,kk,o,hi,by cases kd<;>first | rfl | simp[QT]at h2,by cases kd<;>first | rfl | simp[QT]at h2,by assumption,fun _ hσ hr=>?_⟩
   obtain⟨_,_,h3⟩:=hr;exact h3 (by rw[hσ];rfl)
  ·exact hk.elim
 ·rename_i id;split at hk
  ·rename_i kd ag sz rows foc hi;split at hk
   ·refine⟨id,_,ag,sz,rows,foc,0,0,hi,rfl,rfl,hk,fun RH hσ hr=>?_⟩
    obtain⟨_,_,h3⟩:=hr;obtain⟨ht,h0,hf,xs,hx,_⟩:=RH.objs id _ hσ;obtain⟨_,b,c,e,hv,_⟩:=hx;refine⟨b,by rw[hv];rfl,?_⟩
    rw[h3 (by rw[hσ];rfl),hv]
    simp
   ·exact hk.elim
  ·exact hk.elim
 ·exact hk.elim
theorem SV (hti:Ay C.P ti) (h1:BH ti) {t:TypeId}{i:TI}(hi:ti t=some i) (R:AY C F s h g a w) {id:Id}{kd:Kd}{ag:Bool}{sz k:Nat}{rows:List D}{cs:List CV}
  (hid:h id=some (.tree kd ag sz rows (some (k,cs)))) (hkd:kd.isM=false) {b o:Nat} (hb:blk (gval (g id))=some b) (ho:o+i.size≤cs.length):
  ∃v,(Instr.loadAt t (.pointer (some ⟨b,k*sz+o,none⟩))).run C.P w= .ok v w∧An w (Av (zone g h) C.X) g h (.v (V1.Aa (AR i.desc) ((cs.drop o).take i.size))) v:=by
 obtain⟨ht,h0,hf,xs,hx,hfoc,_⟩:=R.heap.objs id _ hid;obtain⟨hk,hcs,hrel⟩:=hfoc k cs rfl;have hl:=hx.len
 have hlt:k*sz+sz≤xs.length:=by
  have:=Nat.mul_le_mul_right sz (show k+1≤rows.length from hk)
  grind
 let vs:Array Value:=((xs.drop (k*sz+o)).take i.size).toArray
 have hvs:∀(j:Nat) u,vs[j]?=some u→xs[k*sz+(o+j)]?=some u∧j<i.size:=by
  grind
 have hsz:vs.size=i.size:=by simp[vs];omega
 obtain⟨v,hv,ha,hb'⟩:=CJ (P:=C.P) (w:=w) (vs:=vs) (b:=b) (q:=k*sz+o) hti h1 hi hsz (fun j u hu=>by
  have:=hx.cell hkd hb (hvs j u hu).1;grind)
 refine⟨v,hv,?_⟩
 have:=Ah.Aa (w:=w) (Z:=Av (zone g h) C.X) (g:=g) (h:=h) (ag:=AR i.desc) (cs:=(cs.drop o).take i.size) (vs:=vs) (by simp[hsz];omega) (fun j c u hc hu=>by
  grind)
 cases hrow:AR i.desc with
 | true=>rw[ha hrow];rw[hrow]at this;exact this.1 rfl
 | false=>rw[hrow]at this;exact this.2 rfl v (hb' hrow)
theorem AY.mM (R:AY C F s h g a w) {id:Id}{ob ob':AD}(hid:h id=some ob) {b:Nat}{c c':Array Value}{e:TypeId}
  (hwh:∀o,BS (g id) ob b o) (hzz:∀b' o,BS (g id) ob' b' o→BS (g id) ob b' o) (hlv:isLive (some ob')=true→isLive (some ob)=true) (htk:∀n sz e,ob'≠ .tok n sz e)
  (hb:w.heap[b]?=some (.cells c e (0,0)))
  (hobj:HC w (Av (zone g h) C.X) g h (w.setRow b c') (Av (zone g (AK h id ob')) C.X) g (AK h id ob')→BL (w.setRow b c') (Av (zone g (AK h id ob')) C.X) g (AK h id ob') ob' (g id)):
  AY C F s (AK h id ob') g a (w.setRow b c'):=by
 have hzb:∀o,zone g h b o:=fun o=>⟨id,_,hid,hwh o⟩
 have hz1:∀i oo b' o,AK h id ob' i=some oo→BS (g i) oo b' o→zone g h b' o:=by
  intro i oo b' o hi h1
  by_cases hin:i=id
  ·subst hin;simp[AK]at hi;subst hi;exact⟨i,_,hid,hzz b' o h1⟩
  ·simp only[AK,if_neg hin]at hi;exact⟨i,oo,hi,h1⟩
 have hcell:∀b' o u,w.cell? ⟨b',o,none⟩=some u→¬zone g h b' o→(w.setRow b c').cell? ⟨b',o,none⟩=some u:=by
  intro b' o u hu hz;have hne:b'≠b:=by grind
  exact (cell_setRow_other w b c' ⟨b',o,none⟩ hne).trans hu
 have E:HC w (Av (zone g h) C.X) g h (w.setRow b c') (Av (zone g (AK h id ob')) C.X) g (AK h id ob'):=by
  refine⟨fun b' o u hu hz=>⟨hcell b' o u hu (fun hz'=>hz (.inl hz')),?_⟩,fun _ _ _=>rfl,fun _ _ _=>rfl,fun _ hi=>hi,fun i k sz e' _ hk=>?_,fun _ hi=>hi,fun i hi hk=>?_⟩
  ·rintro (⟨i,oo,hi,h1⟩ | hx)
   ·exact hz (.inl (hz1 i oo b' o hi h1))
   ·exact hz (.inr hx)
  ·have hin:i≠id:=by rintro rfl;simp[AK]at hk;exact htk _ _ _ hk
   exact⟨k,Nat.le_refl _,by simpa [AK,hin] using hk,fun _=>rfl⟩
  ·by_cases hin:i=id
   ·subst hin;refine⟨?_,rfl⟩;rw[hid];exact hlv (by simpa [AK] using hk)
   ·exact⟨by simpa [AK,hin] using hk,rfl⟩
 refine R.step (fun i=>i=id) E ?_ ?_ ?_ ?_ ?_ ?_ ?_ ?_
 ·exact⟨rfl,rfl,rfl,by simp,fun b' _ hz=>setRow_other w b b' c' (fun e=>hz 0 (e▸hzb 0)),hcell⟩
 ·intro i hi;simp[AK,hi]
 ·intro i o b' hi ho hb';refine setRow_other w b b' c' ?_
  rintro rfl
  exact hi (R.heap.sep i id o _ b' ho hid hb' (hwh 0).HA)
 ·rintro i o rfl ho
  simp[AK]at ho;simp_all
 ·rintro i o b' p rfl ho hb'
  simp[AK]at ho;simp_all
 ·simp_all
 ·rintro j rfl
  exact .refl _
 ·intro k hk;obtain⟨h1,h2⟩:=R.free k hk;have hin:Id.loc k≠id:=by grind
  exact⟨h1,by simp[AK,hin,h2]⟩
theorem DL {α:Type}(l m:List α) (p:Nat) (hp:p+m.length≤l.length) (j:Nat):
  (l.take p++m++l.drop (p+m.length))[j]?=if p≤j∧j<p+m.length then m[j - p]? else l[j]?:=by
 have e1:(l.take p).length=p:=by simp;omega
 grind
theorem AY.mN (R:AY C F s h g a w) {id:Id}{kd:Kd}{ag:Bool}{sz k:Nat}{rows:List D}{cs:List CV}
  (hid:h id=some (.tree kd ag sz rows (some (k,cs)))) (hkd:kd.isM=false) (hkf:kd.IT=false) {b o:Nat} (hb:blk (gval (g id))=some b) {ys:List CV} {vals:List Value} (hl:vals.length=ys.length) (ho:o+ys.length≤cs.length)
  (hr:∀(j:Nat) x u,ys[j]?=some x→vals[j]?=some u→BB w (Av (zone g h) C.X) g h x u):
  ∃c e,w.heap[b]?=some (.cells c e (0,0))∧k*sz+o+vals.length≤c.size∧
   AY C F s (AK h id (.tree kd ag sz rows (some (k,cs.take o++ys++cs.drop (o+ys.length))))) g a (w.setRow b (c.toList.take (k*sz+o)++vals++c.toList.drop (k*sz+o+vals.length)).toArray):=by
 obtain⟨ht,h0,hf,xs,hx,hfoc,U,T,h1,h2,h3,h4,h5⟩:=R.heap.objs id _ hid;obtain⟨hk,hcs,hrel⟩:=hfoc k cs rfl;obtain⟨b',c,e,e1,e2,e3,e4,e5⟩:=hx.block hkd (by omega)
 rw[hb]at e1;cases e1
 have hlt:k*sz+sz≤rows.length*sz:=by
  have:=Nat.mul_le_mul_right sz (show k+1≤rows.length from hk)
  grind
 have hsp:k*sz+o+vals.length≤c.size:=by omega
 refine⟨c,e,e2,hsp,R.mM hid (fun o'=>(h5 b).2 (.inl hb)) (fun _ _ hz=>hz) (fun _=>rfl) (fun _ _ _ h=>by cases h) e2 (fun E=>?_)⟩
 let c':Array Value:=(c.toList.take (k*sz+o)++vals++c.toList.drop (k*sz+o+vals.length)).toArray
 have hc':c'.size=c.size:=by simp[c'];omega
 have hget:∀j,c'[j]?=if k*sz+o≤j∧j<k*sz+o+vals.length then vals[j - (k*sz+o)]? else c[j]?:=by
  intro j;have:=DL c.toList vals (k*sz+o) (by simpa using hsp) j
  grind
 have hxs:∀j,xs[j]?=if j<rows.length*sz then c[j]? else none:=by
  grind
 have hxs':∀j,(c'.toList.take (rows.length*sz))[j]?=if j<rows.length*sz then c'[j]? else none:=by
  grind
 refine⟨ht,h0,hf,c'.toList.take (rows.length*sz),e5 c' hc',fun k' cs' hk'=>?_,U,T,fun i r j cc hi hr' hj=>?_,fun i j b hb=>⟨fun k' cs' hk'=>?_,(h2 i j b hb).2⟩,h3,h4,h5⟩
 ·cases hk'
  refine⟨hk,by simp;omega,fun j x u hx' hu=>E.La ?_⟩
  rw[DL cs ys o ho j]at hx';rw[hxs']at hu
  have hj:j<sz:=by
   grind
  rw[if_pos (by omega),hget]at hu
  by_cases hin:o≤j∧j<o+ys.length
  ·rw[if_pos hin]at hx';rw[if_pos (by omega)]at hu
   refine hr (j - o) x u hx' ?_;rw[←hu];congr 1;omega
  ·rw[if_neg hin]at hx';rw[if_neg (by omega)]at hu
   refine hrel j x u hx' ?_;rw[hxs,if_pos (by omega)]
   exact hu
 ·have hik:i≠k:=hi k _ rfl;obtain⟨p1,p2⟩:=h1 i r j cc (fun k' cs' hk'=>by cases hk';exact hik) hr' hj
  have hfr:=hf r (List.mem_of_getElem? hr');have hjl:j<sz:=by rw[←hfr.2.1];grind
  replace p2:=(Cm.own hkf).1 p2;refine⟨?_,(Cm.own hkf).2 (B6.same p2 fun b' hb'=>setRow_other w b b' c' ?_)⟩
  ·rw[hxs]at p1;rw[hxs'];split at p1
   ·rename_i hlt';rw[if_pos hlt',hget,if_neg,p1]
    rintro⟨q1,q2⟩
    rcases Nat.lt_or_gt_of_ne hik with hlt2 | hlt2
    ·have:=Nat.mul_le_mul_right sz (show i+1≤k from hlt2)
     grind
    ·have:=Nat.mul_le_mul_right sz (show k+1≤i from hlt2)
     grind
   ·cases p1
  grind
 grind
end
section
variable {C:Cx}{ti:Types}{o:Oper}{fresh:Nat}{s:AL}{h:Heap}{k:Out→Prop}
theorem VD {w:World}{Z:Ak}{x:D}{v:Value}{S:Nat→Prop}(r:B6 w x v S) (hx:QU x=true):AZ w Z x v:=by
 cases r with
 | int k n=>exact .int k n
 | bool b=>exact .bool b
 | str s=>exact .str s
 | nil=>exact .nil
 | con _ _ _ _ _ _ _ _ _ _ hcon=>cases x<;>first | trivial | trivial
theorem YI (hti:Ay C.P ti) (h1:BH ti) {t:TypeId}{i:TI}(hi:ti t=some i) {F:Nat→Prop}{g:AP}{a:Act}{w:World}(R:AY C F s h g a w) {id:Id}{kd:Kd}{ag:Bool}{sz k:Nat}{rows:List D}{r:D}
  (hid:h id=some (.tree kd ag sz rows none)) (hkd:kd.isM=false) (hkf:kd.IT=false) (hr:rows[k]?=some r) {b o:Nat} (hb:blk (gval (g id))=some b) (ho:o+i.size≤r.cells.length) (hn:Bd QU ((r.cells.drop o).take i.size)=true):
  ∃v,(Instr.loadAt t (.pointer (some ⟨b,k*sz+o,none⟩))).run C.P w= .ok v w∧An w (Av (zone g h) C.X) g h (.v (V1.Aa (AR i.desc) (((r.cells.drop o).take i.size).map CV.d))) v:=by
 obtain⟨ht,h0,hf,xs,hx,hfoc,U,T,h2,_⟩:=R.heap.objs id _ hid;have hat:∀(j:Nat) c,r.cells[j]?=some c→xs[k*sz+j]?=some (U k j)∧B6 w c (U k j) (T k j):=fun j c hc=>⟨(h2 k r j c (fun _ _ h=>by cases h) hr hc).1,(Cm.own hkf).1 (h2 k r j c (fun _ _ h=>by cases h) hr hc).2⟩
 let vs:Array Value:=((List.range i.size).map (fun j=>U k (o+j))).toArray
 have hvs:∀(j:Nat) u,vs[j]?=some u→j<i.size∧u=U k (o+j):=by
  grind
 obtain⟨v,hv,ha,hb'⟩:=CJ (P:=C.P) (w:=w) (vs:=vs) (b:=b) (q:=k*sz+o) hti h1 hi (by simp[vs]) (fun j u hu=>by
  obtain⟨hj,rfl⟩:=hvs j u hu;have hc:r.cells[o+j]?=some r.cells[o+j]:=by simp
  have:=hx.cell hkd hb (hat _ _ hc).1;grind)
 refine⟨v,hv,?_⟩
 have:=Ah.Aa (w:=w) (Z:=Av (zone g h) C.X) (g:=g) (h:=h) (ag:=AR i.desc) (cs:=((r.cells.drop o).take i.size).map CV.d) (vs:=vs) (by simp[vs];omega) (fun j c u hc hu=>by
  obtain⟨hj,rfl⟩:=hvs j u hu;simp only[List.getElem?_map,Option.map_eq_some_iff]at hc;obtain⟨d,hd,rfl⟩:=hc;have hnd:=BE.1 hn d (List.mem_of_getElem? hd);rw[List.getElem?_take,if_pos hj,List.getElem?_drop]at hd;exact⟨VD (hat _ _ hd).2 hnd,(hat _ _ hd).2.isAgg⟩)
 cases hrow:AR i.desc with
 | true=>rw[ha hrow];rw[hrow]at this;exact this.1 rfl
 | false=>rw[hrow]at this;exact this.2 rfl v (hb' hrow)
theorem Zn (hti:Ay C.P ti) (h1:BH ti) (t:TypeId) (x:Operand) (ho:o.op= .load t x) (hk:SR ti t (AX ti s 0 x) fresh h k):∃out,k out∧BN C o fresh s h out:=by
 obtain⟨gs,hk⟩:=hk;refine EG hk (fun h' k' hk'=>?_)
 unfold loadT at hk';obtain⟨i,hi,hk'⟩:=AF.1 hk';obtain⟨id,kd,ag,sz,rows,foc,kk,oo,hid,hkd,hkf,hk',hpl⟩:=Kk (C:=C) hk'
 have opx:∀{F:Nat→Prop} {σs:AL} {σh:Heap} {g:AP} {a:Act} {w:World} (R:AY C F σs σh g a w),(∀t,Operand.tmp t∈o.op.operands.toList→σs t=s t)→An w (Av (zone g σh) C.X) g σh (AX ti s 0 x) (a.eval x):=
  fun R hs=>AI ti 0 x R (s:=s) (fun k hk=>hs k (by subst hk;simp[ho,Op.operands]))
 cases foc with
 | some p=>
  obtain⟨k0,cs⟩:=p;obtain⟨rfl,hk'⟩:=hk';obtain⟨hle,hk'⟩:=AA.1 hk';refine⟨_,hk',AE fun F σs σh g a w R hs hrd=>?_⟩
  have hσ:=(hrd id (by simp)).trans hid
  obtain⟨b,hb,hu⟩:=hpl R.heap hσ (opx R hs);obtain⟨v,hv,hr⟩:=SV hti h1 hi R hσ hkd hb (Nat.le_of_ble_eq_true hle);exact⟨v,by simp only[execOp,ho,hu];exact BX hv,hr⟩
 | none=>
  obtain⟨r,hr,hk'⟩:=hk';obtain⟨hle,b,hk'⟩:=AA.1 hk';cases b with
  | true=>
   obtain⟨hn,hk'⟩:=AA.1 hk';refine⟨_,hk',AE fun F σs σh g a w R hs hrd=>?_⟩
   have hσ:=(hrd id (by simp)).trans hid
   obtain⟨b,hb,hu⟩:=hpl R.heap hσ (opx R hs);obtain⟨v,hv,hr⟩:=YI hti h1 hi R hσ hkd hkf hr hb (Nat.le_of_ble_eq_true hle) hn;exact⟨v,by simp only[execOp,ho,hu];exact BX hv,hr⟩
  | false=>
   obtain⟨hn,hk'⟩:=AA.1 hk';refine⟨_,hk',?_⟩
   rintro F σs σh a w Q ⟨g,R⟩ hs hrd hF hd
   have hσ:=(hrd id (by simp)).trans hid
   obtain⟨b,hb,hu⟩:=hpl R.heap hσ (opx R hs);obtain⟨g',R',hgv⟩:=R.mL hkf hσ hr hF (Nat.le_of_ble_eq_true hn)
   have hσ':Az (AK σh id (.tree kd ag sz rows (some (kk,CQ fresh 0 r.cells)))) (CI fresh 0 r.cells) id=some (.tree kd ag sz rows (some (kk,CQ fresh 0 r.cells))):=by
    rcases F2 (fresh:=fresh) (ds:=r.cells) (c:=0) (h:=AK σh id (.tree kd ag sz rows (some (kk,CQ fresh 0 r.cells)))) (x:=id)with⟨j,d,_,_,_,_,p1,p2,p3,_⟩ | ⟨_,p2⟩
    ·have hj:=(List.getElem?_eq_some_iff.1 p1).1;have hn':=Nat.le_of_ble_eq_true hn;have:=(R.free _ (hF (0+j) (by omega))).2
     simp_all
    ·rw[p2];simp[AK]
   obtain⟨v,hv,hrel⟩:=SV hti h1 hi R' hσ' hkd (by rw[hgv];exact hb) (by rw[F1];exact Nat.le_of_ble_eq_true hle)
   unfold Oper.wp;have hrun:(execOp a.eval o).run C.P w= .ok (.value v) w:=by simp only[execOp,ho,hu];exact BX hv
   rw[hrun];exact⟨g',R'.put hd hrel⟩
theorem My (hti:Ay C.P ti) {t:TypeId}{i:TI}(hi:ti t=some i) {x y:Operand}(ho:o.op= .store t x y) {a:Act}{w:World}{b q:Nat}{c:Array Value}{e:TypeId}(hu:a.eval x= .pointer (some ⟨b,q,none⟩))
  (hb:w.heap[b]?=some (.cells c e (0,0))) (hsz:(a.eval y).cells.size=i.size) (hle:q+i.size≤c.size) (hone:∀v∈(a.eval y).cells.toList,v.oneCell'=true):
  (execOp a.eval o).run C.P w= .ok .skip (w.setRow b (c.toList.take q++(a.eval y).cells.toList++c.toList.drop (q+(a.eval y).cells.toList.length)).toArray):=by
 have hst:=run_storeCells_at C.P b q e (a.eval y).cells.toList 0 c w hb (by simp;omega) hone
 simp only[Nat.add_zero,Array.length_toList]at hst;obtain⟨_,ii,hii,hsi,_⟩:=hti t i hi;simp only[execOp,ho,hu,Instr.storeAt,Instr.sureAddr,storeVar,sizeOf,typeInfo,Sem.run_bind,run_program,Result.andThen_ok,Sem.run_pure,hii,hsi,hsz];simp[hst]
theorem YJ (hti:Ay C.P ti) (t:TypeId) (x y:Operand) (ho:o.op= .store t x y) (hd:o.dst=none) (hk:PK ti t (AX ti s 0 x) (AX ti s t y) fresh h k):∃out,k out∧BN C o fresh s h out:=by
 obtain⟨gs,hk⟩:=hk;refine EG hk (fun h' k' hk'=>?_)
 unfold storeT at hk';obtain⟨i,hi,hk'⟩:=AF.1 hk';obtain⟨yv,hyv,hk'⟩:=Cb.1 hk';obtain⟨hlen,hk'⟩:=AA.1 hk';have hlen:=Nat.eq_of_beq_eq_true hlen;obtain⟨id,kd,ag,sz,rows,foc,kk,oo,hid,hkd,hkf,hk',hpl⟩:=Kk (C:=C) hk'
 have opx:∀{F:Nat→Prop} {σs:AL} {σh:Heap} {g:AP} {a:Act} {w:World} (R:AY C F σs σh g a w),(∀t,Operand.tmp t∈o.op.operands.toList→σs t=s t)→An w (Av (zone g σh) C.X) g σh (AX ti s 0 x) (a.eval x):=
  fun R hs=>AI ti 0 x R (s:=s) (fun k hk=>hs k (by subst hk;simp[ho,Op.operands]))
 have opy:∀{F:Nat→Prop} {σs:AL} {σh:Heap} {g:AP} {a:Act} {w:World} (R:AY C F σs σh g a w),(∀t,Operand.tmp t∈o.op.operands.toList→σs t=s t)→An w (Av (zone g σh) C.X) g σh (.v yv) (a.eval y):=
  fun R hs=>hyv▸AI ti t y R (s:=s) (fun k hk=>hs k (by subst hk;simp[ho,Op.operands]))
 -- the store itself, at an open row
 have main:∀{F:Nat→Prop} {σs:AL} {σh:Heap} {g:AP} {a:Act} {w:World} {Q:Exit→Act→World→Prop} {cs:List CV} (R:AY C F σs σh g a w),(∀t,Operand.tmp t∈o.op.operands.toList→σs t=s t)→
   σh id=some (.tree kd ag sz rows (some (kk,cs)))→∀b,blk (gval (g id))=some b→a.eval x= .pointer (some ⟨b,kk*sz+oo,none⟩)→oo+i.size≤cs.length→∀F',(∀n,F' n→F n)→
   o.wp C.P a w (fun a' w'=>Rel C F' (CR σs o.dst .u) (AK σh id (.tree kd ag sz rows (some (kk,cs.take oo++yv.cells++cs.drop (oo+i.size))))) a' w') Q:=by
  intro F σs σh g a w Q cs R hs hσ b hb hu hle F' hF';obtain⟨hy1,hy2⟩:=Ah.cells (show Ah w _ g σh yv (a.eval y)from opy R hs)
  have hone:∀v∈(a.eval y).cells.toList,v.oneCell'=true:=by
   intro v hv;obtain⟨j,hj⟩:=List.mem_iff_getElem?.1 hv;have hlt:=(List.getElem?_eq_some_iff.1 hj).1;simp at hlt hj;exact BB.BR (hy2 j yv.cells[j] v (by simp) (by simpa using hj))
  obtain⟨c,e,p1,p2,R'⟩:=R.mN hσ hkd hkf hb (ys:=yv.cells) (vals:=(a.eval y).cells.toList) (o:=oo) (by simpa using hy1) (by omega) (fun j x u h1 h2=>hy2 j x u h1 (by simpa using h2))
  unfold Oper.wp;rw[My hti hi ho hu p1 (by omega) (by simp at p2;omega) hone]
  rw[hlen]at R';exact⟨g,(R'.put (dst:=o.dst) (v:=.u) (u:=undef) (fun d e=>by rw[hd]at e;cases e) trivial).Af hF'⟩
 cases foc with
 | some p=>
  obtain⟨k0,cs⟩:=p;obtain⟨rfl,hk'⟩:=hk';obtain⟨hle,hk'⟩:=AA.1 hk';refine⟨_,hk',?_⟩
  rintro F σs σh a w Q ⟨g,R⟩ hs hrd hF _
  have hσ:=(hrd id (by simp)).trans hid
  obtain⟨b,hb,hu⟩:=hpl R.heap hσ (opx R hs);exact main R hs hσ b hb hu (Nat.le_of_ble_eq_true hle) _ (fun n hn=>hn.1)
 | none=>
  obtain⟨r,hr,hk'⟩:=hk';obtain⟨hle,hk'⟩:=AA.1 hk';obtain⟨hn,hk'⟩:=AA.1 hk';refine⟨_,hk',?_⟩
  rintro F σs σh a w Q ⟨g,R⟩ hs hrd hF _
  have hσ:=(hrd id (by simp)).trans hid
  obtain⟨b,hb,hu⟩:=hpl R.heap hσ (opx R hs);obtain⟨g',R',hgv⟩:=R.mL hkf hσ hr hF (Nat.le_of_ble_eq_true hn)
  have hni:∀{hh:Heap},Az hh (CI fresh 0 r.cells) id=hh id:=by
   intro hh;rcases F2 (fresh:=fresh) (ds:=r.cells) (c:=0) (h:=hh) (x:=id)with⟨j,d,_,_,_,_,p1,p2,p3,_⟩ | ⟨_,p2⟩
   ·have hj:=(List.getElem?_eq_some_iff.1 p1).1;have hn':=Nat.le_of_ble_eq_true hn;have:=(R.free _ (hF (0+j) (by omega))).2
    grind
   ·exact p2
  have hσ':Az (AK σh id (.tree kd ag sz rows (some (kk,CQ fresh 0 r.cells)))) (CI fresh 0 r.cells) id=some (.tree kd ag sz rows (some (kk,CQ fresh 0 r.cells))):=by
   rw[hni];simp[AK]
  have:=main (Q:=Q) R' hs hσ' b (by rw[hgv];exact hb) hu (by rw[F1];exact Nat.le_of_ble_eq_true hle) _ (fun n hn=>hn)
  -- the two ways to write the heap
  have he:∀ob ob':AD,AK (Az (AK σh id ob) (CI fresh 0 r.cells)) id ob'=Az σh ((id,ob')::CI fresh 0 r.cells):=by
   intro ob ob';funext y;show (if y=id then some ob' else Az (AK σh id ob) (CI fresh 0 r.cells) y)=Az (AK σh id ob') (CI fresh 0 r.cells) y
   by_cases hy:y=id
   ·rw[if_pos hy,hy,hni];simp[AK]
   ·rw[if_neg hy];exact QR (by simp[AK,hy])
  grind
theorem YK (hti:Ay C.P ti) (t:TypeId) (x:Operand) (f:Nat) (ho:o.op= .fieldAddr t x f) (hk:F3 ti t (AX ti s 0 x) f h k):∃out,k out∧BN C o fresh s h out:=by
 unfold F3 at hk;obtain⟨i,hi,hk⟩:=AF.1 hk;split at hk
 ·rename_i fs hfs;split at hk
  ·rename_i fd hfd;obtain⟨j,hj,hk⟩:=AF.1 hk;obtain⟨hpos,hk⟩:=AA.1 hk
   have hpos:j.size≠0:=by
    have:0<j.size:=by simpa using hpos
    omega
   obtain⟨id,kd,ag,sz,rows,foc,kk,oo,hid,hkd,hkf,hk,hpl⟩:=Kk (C:=C) hk;refine⟨_,hk,AE fun F σs σh g a w R hs hrd=>?_⟩
   have hσ:=(hrd id (by simp)).trans hid
   obtain⟨b,hb,hu⟩:=hpl R.heap hσ (AI ti 0 x R (s:=s) (fun k hk=>hs k (by subst hk;simp[ho,Op.operands])))
   refine⟨.pointer (some ⟨b,kk*sz+oo+fd.offset,none⟩),?_,rfl,(R.heap.objs id _ hσ).1,fun _=>⟨b,hb,by rw[Nat.add_assoc]⟩⟩
   have h1:=Cp hti hi w;rw[hfs]at h1;have h2:=Dr hti hj w;simp only[execOp,ho,hu];refine BX ?_;simp[Instr.fieldAt,h1,hfd,Instr.sureAddr,fieldPlace,h2,hpos,BV]
  ·exact hk.elim
 ·exact hk.elim
theorem VE {P:Program}{w:World}{r:Nat}{m:Array MapEntry}{cl:Nat}(hh:w.heap[r]?=some (.map m cl)):(getObj r).run P w= .ok (.map m cl) w:=by
 simp[getObj,Sem.run,hh]
theorem Holds.row {w:World}{sz:Nat}{v:Value}{n:Nat}{xs:List Value}(h:Holds w .row sz v n xs):∃A cap,v= .slice A n cap∧n≤cap∧cap≤maxLen∧(0<n→∃b,A=some ⟨b,0,none⟩):=by
 obtain⟨e,h1,h2⟩:=h;grind
theorem YL (hti:Ay C.P ti) (t:TypeId) (x y:Operand) (ho:o.op= .indexAddr t x y) (hk:F4 C.M ti t (AX ti s t x) (AX ti s 3 y) h k):∃out,k out∧BN C o fresh s h out:=by
 unfold F4 at hk;obtain⟨q,n,hyv,hk⟩:=CH.1 hk;obtain⟨i,hi,hk⟩:=AF.1 hk;split at hk
 ·rename_i e hdesc;obtain⟨j,hj,hk⟩:=AF.1 hk;split at hk
  ·rename_i id hop;split at hk
   ·rename_i kd ag sz rows foc hid;split at hk
    ·obtain⟨hsz,hlk,hk⟩:=AA.1 hk;obtain⟨h0,hlt⟩:=(C.M.lock_iff _).1 hlk;have hsz:=Nat.eq_of_beq_eq_true hsz;refine⟨_,hk,AE fun F σs σh g a w R hs hrd=>?_⟩
     have hσ:=(hrd id (by simp)).trans hid
     have hv:=AI ti t x R (s:=s) (fun k hk=>hs k (by subst hk;simp[ho,Op.operands]))
     have hn:=AI ti 3 y R (s:=s) (fun k hk=>hs k (by subst hk;simp[ho,Op.operands]))
     rw[hyv]at hn;have hn:=Ey hn;rw[hop]at hv;have hv:=hv.2.2 (by rw[hσ];rfl)
     obtain⟨ht,h0',hf,xs,hx,_⟩:=R.heap.objs id _ hσ;obtain⟨A,cap,hg,hcap,hmax,hA⟩:=hx.row;obtain⟨b,rfl⟩:=hA (by omega)
     rw[hg]at hv;refine⟨.pointer (some ⟨b,n.toNat*sz,none⟩),?_,rfl,ht,fun _=>⟨b,by rw[hg];rfl,by simp⟩⟩
     have h1:=Cp hti hi w;rw[hdesc]at h1;have h2:=Dr hti hj w;have h3:0≤n∧n<(rows.length:Int):=by omega
     simp only[execOp,ho];refine BX ?_;simp[Instr.indexAt,asIntOf,h1,h2,hv,hn,h3,BV,Instr.sureAddr,hsz]
    ·exact hk.elim
   ·exact hk.elim
  ·exact hk.elim
 ·exact hk.elim
theorem nG (hti:Ay C.P ti) (t:TypeId) (x:Operand) (ho:o.op= .call {callee:=.builtin .len,args:=#[x],argTypes:=#[t]}) (hk:Jo C.M ti t (AX ti s t x) h k):∃out,k out∧BN C o fresh s h out:=by
 unfold Jo at hk;obtain⟨i,hi,hk⟩:=AF.1 hk;split at hk
 ·rename_i id hop;split at hk
  ·rename_i kd ag sz rows foc hid
   have opx:∀{F:Nat→Prop} {σs:AL} {σh:Heap} {g:AP} {a:Act} {w:World} (R:AY C F σs σh g a w),(∀t,Operand.tmp t∈o.op.operands.toList→σs t=s t)→σh id=h id→
     ∃xs,Holds w kd sz (a.eval x) rows.length xs:=by
    intro F σs σh g a w R hs hrd;have hσ:=hrd.trans hid;have hv:=AI ti t x R (s:=s) (fun k hk=>hs k (by subst hk;simp[ho,Op.operands,Call.operands]))
    rw[hop]at hv;obtain⟨ht,h0',hf,xs,hx,_⟩:=R.heap.objs id _ hσ;rw[hv.2.2 (by rw[hσ];rfl)]
    exact⟨xs,hx⟩
   split at hk
   ·split at hk
    ·rename_i e hdesc;obtain⟨z,hz,hk⟩:=hk;refine⟨_,hk,AE fun F σs σh g a w R hs hrd=>?_⟩
     obtain⟨xs,hx⟩:=opx R hs (hrd id (by simp))
     obtain⟨A,cap,hv,_⟩:=hx.row;rw[←hz,C.M.lenI_eq];refine⟨.int .i64 rows.length,?_,.int _ _⟩;have h1:=Cp hti hi w;rw[hdesc]at h1;simp[execOp,ho,resolve,invoke,builtin,Builtin.len_,h1,hv,goInt]
    ·exact hk.elim
   ·split at hk
    ·rename_i kt et hdesc;obtain⟨z,hz,hk⟩:=hk;refine⟨_,hk,AE fun F σs σh g a w R hs hrd=>?_⟩
     obtain⟨xs,r,m,cl,hv,hh,hn,_⟩:=opx R hs (hrd id (by simp))
     rw[←hz,C.M.lenI_eq];refine⟨.int .i64 rows.length,?_,.int _ _⟩;have h1:=Cp hti hi w;rw[hdesc]at h1;simp[execOp,ho,resolve,invoke,builtin,Builtin.len_,h1,hv,goInt,VE hh,hn]
    ·exact hk.elim
   ·exact hk.elim
  ·exact hk.elim
 ·exact hk.elim
end
end Go.AM
namespace Go.AM
open Go Go.RowKit
theorem DN {l:List (Id×AD)}{i:Id}:∀{h:Heap},i∉l.map (·.1)→Az h l i=h i:=by
 induction l with
 | nil=>intro h _;rfl
 | cons x l ih=>
  intro h hi;simp only[List.map_cons,List.mem_cons,not_or]at hi;show Az (AK h x.1 x.2) l i=_;rw[ih hi.2];simp[AK,hi.1]
theorem XL {l:List (Id×AD)}{i:Id}{o:AD}:∀{h:Heap},(l.map (·.1)).Nodup→(i,o)∈l→Az h l i=some o:=by
 induction l with
 | nil=>simp_all
 | cons x l ih=>
  intro h hn hi;simp only[List.map_cons,List.nodup_cons]at hn;show Az (AK h x.1 x.2) l i=_;rcases List.mem_cons.1 hi with rfl | hi
  ·rw[DN hn.1];simp[AK]
  ·exact ih hn.2 hi
theorem SW {r:Id→Id}:∀{m:List Id}{post:List AD},m.length=post.length→(MQ m r post).map (·.1)=m
 | [],[],_=>rfl
 | i::m,o::post,h=>by simp[MQ,SW (m:=m) (post:=post) (by simpa using h)]
theorem XM {r:Id→Id}:∀{m:List Id}{post:List AD}{j:Nat}{i:Id}{o:AD},m[j]?=some i→post[j]?=some o→(i,o.A0 r)∈MQ m r post
 | i::m,o::post,0,_,_,h1,h2=>by simp at h1 h2;subst h1;subst h2;simp[MQ]
 | i::m,o::post,j+1,i',o',h1,h2=>by
  simp at h1 h2;simp only[MQ,List.mem_cons];exact .inr (XM h1 h2)
theorem M0 {r:Id→Id}{fresh:Nat}:∀{new:List AD}{k:Nat},(Cl fresh r k new).map (·.1)=(List.range' k new.length).map (fun n=>Id.loc (fresh+n))
 | [],k=>rfl
 | o::new,k=>by simp[Cl,M0 (new:=new) (k:=k+1),List.range'_succ]
theorem PM {r:Id→Id}{fresh:Nat}:∀{new:List AD}{k j:Nat}{o:AD},new[j]?=some o→(Id.loc (fresh+(k+j)),o.A0 r)∈Cl fresh r k new
 | o::new,k,0,_,h=>by simp at h;subst h;simp[Cl]
 | o::new,k,j+1,o',h=>by
  simp at h;have:=PM (r:=r) (fresh:=fresh) (k:=k+1) h;simp only[Cl,List.mem_cons];grind
theorem Da:∀{pre post:List AD}{j:Nat}{o:AD},Bi pre post→post[j]?=some o→∃o0,pre[j]?=some o0∧sameKind o0 o
 | a::pre,b::post,0,o,h,hj=>by simp at hj;subst hj;exact⟨a,rfl,h.1⟩
 | a::pre,b::post,j+1,o,h,hj=>by
  simp at hj;obtain⟨o0,h1,h2⟩:=Da (j:=j) h.2 hj;simp_all
 | [],[],j,o,h,hj=>by simp at hj
theorem EX:∀{pre post:List AD},Bi pre post→post.length=pre.length
 | [],[],_=>rfl
 | _::_,_::_,h=>by simp[EX h.2]
theorem Jr {a b:AD}(h:sameKind a b) (k:isLive (some b)=true):isLive (some a)=true:=by
 cases b<;>simp[isLive]at k<;>cases a<;>simp[sameKind]at h<;>rfl
theorem SX {a:Option Addr}(h:isTu (.pointer a)):False:=by obtain⟨_,_,h,_⟩:=h;cases h
theorem SY {a:Option Nat}(h:isTu (.map a)):False:=by obtain⟨_,_,h,_⟩:=h;cases h
theorem CU.eq {u v:Value}(h:CU u v) (k:¬isTu u):v=u:=by
 rcases h with h | h
 ·exact h
 ·exact absurd h.1 k
theorem CU.gval {u v:Value}(h:CU u v):gval v=gval u:=by
 rcases h with rfl | h
 ·rfl
 ·exact h.2.2
theorem CU.isTu {u v:Value}(h:CU u v) (k:isTu u):isTu v:=by
 rcases h with rfl | h
 ·exact k
 ·exact h.2.1
theorem Du {C:Cx}{F:Nat→Prop}{σs:AL}{σh:Heap}{g:AP}{a:Act}{w:World}{fresh:Nat}
  {m:List Id} {targs:List V1} {pre:List AD} {Qp:AV→List AD→List AD→Prop} {vals:Array Value} {dst:Option Tmp} {Q:Exit→Act→World→Prop} {Run:(Ending→World→Prop)→Prop}
  (R:AY C F σs σh g a w) (hmono:∀{p q:Ending→World→Prop},(∀e w,p e w→q e w)→Run p→Run q)
  (hrun:∀X g1,(∀i,g1 i=g (BG m fresh i))→(∀b o,X b o→b<w.heap.size)→C.M.I.at w (Av (zone g1 (Ad pre)) X)→DA w X g1 (Ad pre)→(∀n,g1 (.loc n)=undef)→
   (∀(j:Nat) x v,targs[j]?=some x→vals[j]?=some v→Ah w (Av (zone g1 (Ad pre)) X) g1 (Ad pre) x v)→
   Run fun e w'=>∃v g' res post new,Qp res post new∧e= .returned v∧CW w X g1 pre res post new v w' g')
  (hlen:m.length=pre.length) (hnd:m.Nodup)
  (hpre:∀(j:Nat) i o,m[j]?=some i→pre[j]?=some o→σh i=some (o.A0 (BG m fresh))) (hQp:∀res post new,Qp res post new→Bi pre post∧new.length≤31)
  (hF:∀k,k<32→F (fresh+k)) (hd:∀d,dst=some d→d<C.nt)
  (hargs:∀(j:Nat) x v,(targs.map (V1.A0 (BG m fresh)))[j]?=some x→vals[j]?=some v→Ah w (Av (zone g σh) C.X) g σh x v):
  Run fun
   | .returned v,w''=>∃res post new,Qp res post new∧∃g2,(∀i q,g i= .map (some q)→g2 i=g i)∧AY C (fun n=>F n∧¬(fresh≤n∧n<fresh+32)) (CR σs dst (res.A0 (BG m fresh))) (Az σh (MQ m (BG m fresh) post++Cl fresh (BG m fresh) 0 new)) g2 (a.put dst v) w''
   | .panicked chain,w''=>Q (.panic chain) a w''
   | .outgrown,_=>LetsOut Q:=by
 let r:=BG m fresh
 have hr:r=BG m fresh:=rfl
 let gc:AP:=fun i=>g (r i)
 let hc:Heap:=Ad pre
 let Xc:Ak:=fun b o=>C.X b o∨∃i ob,σh i=some ob∧i∉m∧BS (g i) ob b o
 have rin:∀j i,m[j]?=some i→r (.ext j)=i:=fun j i hj=>by simp[hr,BG,hj]
 have rout:∀j,m[j]?=none→r (.ext j)= .loc (fresh+31):=fun j hj=>by simp[hr,BG,hj]
 have rloc:∀k,k<31→r (.loc k)= .loc (fresh+k):=fun k hk=>by simp[hr,BG,hk]
 have rloc7:∀k,31≤k→r (.loc k)= .loc (fresh+31):=fun k hk=>by simp[hr,BG,show ¬k<31 from by omega]
 have free:∀k,k<32→g (.loc (fresh+k))=undef∧σh (.loc (fresh+k))=none:=fun k hk=>R.free _ (hF k hk)
 have gcl:∀n,gc (.loc n)=undef:=by
  grind
 have hcs:∀i o,hc i=some o→∃j,i= .ext j∧m[j]?=some (r i)∧pre[j]?=some o∧σh (r i)=some (o.A0 r):=by
  intro i o hi;cases i with
  | loc n=>simp[hc,Ad]at hi
  | ext j=>
   have hi':pre[j]?=some o:=hi;grind
 have hzc:∀b o,zone gc hc b o→zone g σh b o:=by
  rintro b o ⟨i,ob,hi,h1⟩
  obtain⟨j,rfl,hm,_,hs⟩:=hcs i ob hi;exact⟨_,_,hs,Ca.2 h1⟩
 have hz:∀b o,Av (zone gc hc) Xc b o→Av (zone g σh) C.X b o:=by
  rintro b o (h1 | h1 | ⟨i,ob,hi,_,h1⟩)
  ·exact .inl (hzc b o h1)
  ·exact .inr h1
  ·exact .inl ⟨i,ob,hi,h1⟩
 have htok:∀i n sz e,hc i=some (.tok n sz e)→σh (r i)=some (.tok n sz e):=by
  intro i n sz e hi;obtain⟨j,rfl,hm,_,hs⟩:=hcs i _ hi;exact hs
 have hown:∀i,isLive (hc i)=true→isLive (σh (r i))=true:=by
  intro i hi;cases ho:hc i with
  | none=>rw[ho]at hi;cases hi
  | some o=>
   obtain⟨j,rfl,hm,_,hs⟩:=hcs i _ ho;rw[hs];rw[ho]at hi;exact DM.trans hi
 have hXlt:∀b o,Xc b o→b<w.heap.size:=by
  rintro b o (h1 | ⟨i,ob,hi,_,h1⟩)
  ·exact Nat.lt_of_lt_of_le (R.xs b o h1) R.frame.size
  ·exact (R.heap.objs i ob hi).lt h1.HA
 have RH:DA w Xc gc hc:=by
  refine⟨fun i o hi=>?_,fun i i' oi oi' b hi hi' bi bi'=>?_,fun i oi b o hi bi hx=>?_⟩
  ·obtain⟨j,rfl,hm,_,hs⟩:=hcs i o hi;exact BL.pull (r:=r) hz (fun _=>rfl) htok hown (R.heap.objs _ _ hs)
  ·obtain⟨j,rfl,hm,_,hs⟩:=hcs i oi hi;obtain⟨j',rfl,hm',_,hs'⟩:=hcs i' oi' hi';have e:=R.heap.sep _ _ _ _ b hs hs' (C5.2 bi) (C5.2 bi');rw[e]at hm;have:=(List.getElem?_inj (List.getElem?_eq_some_iff.1 hm).1 hnd).1 (hm.trans hm'.symm);rw[this]
  ·obtain⟨j,rfl,hm,_,hs⟩:=hcs i oi hi;rcases hx with hx | ⟨i',ob,hi',hni,h1⟩
   ·exact R.heap.apart _ _ b o hs (C5.2 bi) hx
   ·have e:=R.heap.sep _ _ _ _ b hs hi' (C5.2 bi) h1.HA;grind
 refine hmono ?_ (hrun Xc gc (fun _=>rfl) hXlt (R.inv.mono hz) RH gcl (fun j x v hx hv=>?_))
 rotate_left
 ·exact Ah.pull (r:=r) hz (fun _=>rfl) htok hown (hargs j (x.A0 r) v (by simp[hx,hr]) hv)
 rintro e w' ⟨v,g',res,post,new,hqp,rfl,CP⟩
 obtain⟨hk,hnew⟩:=hQp res post new hqp;refine⟨res,post,new,hqp,?_⟩
 -- the new ghost, the new heap
 have pick:∀i,i∈m→∃j,m[j]?=some i:=fun i hi=>List.mem_iff_getElem?.1 hi
 let g2:AP:=fun i=>if hi:i∈m then g' (.ext (Classical.choose (pick i hi)))else match i with
  | .loc n=>if fresh≤n∧n<fresh+32 then g' (.loc (n - fresh))else g i
  | .ext j=>g (.ext j)
 let hc2:Heap:=BQ post new
 let h2:Heap:=Az σh (MQ m (BG m fresh) post++Cl fresh (BG m fresh) 0 new)
 have mlive:∀i,i∈m→σh i≠none:=by
  intro i hi;obtain⟨j,hj⟩:=List.mem_iff_getElem?.1 hi;have hlt:j<pre.length:=by grind
  rw[hpre j i pre[j] hj (by simp[hlt])]
  simp
 have mfresh:∀k,k<32→Id.loc (fresh+k)∉m:=fun k hk hm=>mlive _ hm (free k hk).2
 have plen:post.length=pre.length:=EX hk
 have keys:((MQ m (BG m fresh) post++Cl fresh (BG m fresh) 0 new).map (·.1))=m++(List.range' 0 new.length).map (fun n=>Id.loc (fresh+n)):=by
  rw[List.map_append,SW (by omega),M0]
 have knd:((MQ m (BG m fresh) post++Cl fresh (BG m fresh) 0 new).map (·.1)).Nodup:=by
  rw[keys];refine List.nodup_append.2 ⟨hnd,?_,?_⟩
  ·refine List.Pairwise.map _ (fun x y (hxy:x≠y) he=>hxy ?_) (List.nodup_range' (s:=0) (n:=new.length))
   simp at he;omega
  grind
 have h2m:∀(j:Nat) (i:Id) (o:AD),m[j]?=some i→post[j]?=some o→h2 i=some (o.A0 r):=fun j i o h1 h3=>XL knd (List.mem_append.2 (.inl (XM h1 h3)))
 have h2n:∀(k:Nat) (o:AD),new[k]?=some o→h2 (.loc (fresh+k))=some (o.A0 r):=fun k o h1=>XL knd (List.mem_append.2 (.inr (by simpa using PM (k:=0) h1)))
 have h2o:∀i,i∉m→(∀k,k<new.length→i≠ .loc (fresh+k))→h2 i=σh i:=by
  intro i h1 h3;refine DN ?_;grind
 have g2m:∀(j:Nat) i,m[j]?=some i→g2 i=g' (.ext j):=by
  intro j i hj;have hi:=List.mem_of_getElem? hj;show (if hi:i∈m then g' (.ext (Classical.choose (pick i hi)))else _)=_
  rw[dif_pos hi];have h1:=Classical.choose_spec (pick i hi);rw[(List.getElem?_inj (List.getElem?_eq_some_iff.1 h1).1 hnd).1 (h1.trans hj.symm)]
 have g2s:∀i,i∈m→CU (g i) (g2 i):=by
  intro i hi;obtain⟨j,hj⟩:=pick i hi;rw[g2m j i hj];have:=CP.ext j;grind
 have g2f:∀k,k<32→g2 (.loc (fresh+k))=g' (.loc k):=by
  intro k hk;show (if hi:Id.loc (fresh+k)∈m then g' (.ext (Classical.choose (pick _ hi)))else _)=_
  rw[dif_neg (mfresh k hk)];show (if _ then _ else _)=_
  rw[if_pos (by omega),show fresh+k - fresh=k from by omega]
 have g2o':∀i,i∉m→(∀k,k<32→i≠ .loc (fresh+k))→g2 i=g i:=by
  intro i him hi;show (if hi:i∈m then g' (.ext (Classical.choose (pick i hi)))else _)=_
  rw[dif_neg him];cases i with
  | ext j=>rfl
  | loc n=>
   show (if _ then _ else _)=_
   rw[if_neg]
   rintro⟨h1,h3⟩
   exact hi (n - fresh) (by omega) (by congr 1;omega)
 have g2o:∀i,¬isTu (g i)→(∀k,k<32→i≠ .loc (fresh+k))→g2 i=g i:=by
  intro i ht hi
  by_cases him:i∈m
  ·exact (g2s i him).eq ht
  ·exact g2o' i him hi
 have g2t:∀i,(∀k,k<32→i≠ .loc (fresh+k))→CU (g i) (g2 i):=by
  intro i hi
  by_cases him:i∈m
  ·exact g2s i him
  ·rw[g2o' i him hi];exact .refl _
 have hg2:∀i,g' i=g2 (r i):=by
  intro i;cases i with
  | ext j=>
   cases hj:m[j]? with
   | some i=>grind
   | none=>
    have hu:gc (.ext j)=undef:=by grind
    have h1:=CP.ext j;rw[hu]at h1;rw[h1.eq BT,rout j hj,g2f 31 (by omega),CP.none 31 hnew]
  | loc k=>
   by_cases hk:k<31
   ·rw[rloc k hk,g2f k (by omega)]
   ·rw[rloc7 k (by omega),g2f 31 (by omega),CP.none k (by omega),CP.none 31 hnew]
 have ht2:∀i n sz e,h2 (r i)=some (.tok n sz e)→hc2 i=some (.tok n sz e):=by
  intro i n sz e hi
  have tr:∀o:AD,some (o.A0 r)=some (.tok n sz e)→o= .tok n sz e:=by
   intro o ho;cases o<;>simp[AD.A0]at ho
   grind
  cases i with
  | ext j=>
   cases hj:m[j]? with
   | some i=>
    rw[rin j i hj]at hi;have hlt:j<post.length:=by grind
    rw[h2m j i post[j] hj (by simp[hlt])]at hi
    show post[j]?=_;grind
   | none=>
    rw[rout j hj,h2o _ (mfresh 31 (by omega)) (fun k hk=>by simp;omega),(free 31 (by omega)).2]at hi
    simp at hi
  | loc k=>
   by_cases hk:k<new.length
   ·rw[rloc k (by omega),h2n k new[k] (by simp[hk])]at hi
    show new[k]?=_;grind
   ·exfalso
    by_cases hk7:k<31
    ·rw[rloc k hk7,h2o _ (mfresh k (by omega)) (fun k' hk'=>by simp;omega),(free k (by omega)).2]at hi
     simp at hi
    ·rw[rloc7 k (by omega),h2o _ (mfresh 31 (by omega)) (fun k' hk'=>by simp;omega),(free 31 (by omega)).2]at hi
     simp at hi
 have hw2:∀i,isLive (h2 (r i))=true→isLive (hc2 i)=true:=by
  intro i hi;cases i with
  | ext j=>
   cases hj:m[j]? with
   | some i=>
    rw[rin j i hj]at hi;have hlt:j<post.length:=by grind
    rw[h2m j i post[j] hj (by simp[hlt])]at hi
    show isLive post[j]?=_;have:=DM.symm.trans hi;simpa [hlt] using this
   | none=>
    rw[rout j hj,h2o _ (mfresh 31 (by omega)) (fun k hk=>by simp;omega),(free 31 (by omega)).2]at hi
    simp[isLive]at hi
  | loc k=>
   by_cases hk:k<new.length
   ·rw[rloc k (by omega),h2n k new[k] (by simp[hk])]at hi
    show isLive new[k]?=_;have:=DM.symm.trans hi;simpa [hk] using this
   ·exfalso
    by_cases hk7:k<31
    ·rw[rloc k hk7,h2o _ (mfresh k (by omega)) (fun k' hk'=>by simp;omega),(free k (by omega)).2]at hi
     simp[isLive]at hi
    ·rw[rloc7 k (by omega),h2o _ (mfresh 31 (by omega)) (fun k' hk'=>by simp;omega),(free 31 (by omega)).2]at hi
     simp[isLive]at hi
 -- where an object of the new heap comes from
 have cases2:∀(i:Id) (o:AD),h2 i=some o→(∃(j:Nat) (o':AD),m[j]?=some i∧post[j]?=some o'∧o=o'.A0 r)∨(∃(k:Nat) (o':AD),k<31∧i= .loc (fresh+k)∧new[k]?=some o'∧o=o'.A0 r)∨
   (i∉m∧(∀k,k<32→i≠ .loc (fresh+k))∧σh i=some o):=by
  intro i o hi
  by_cases him:i∈m
  ·obtain⟨j,hj⟩:=List.mem_iff_getElem?.1 him;have hlt:j<post.length:=by grind
   rw[h2m j i post[j] hj (by simp[hlt])]at hi
   grind
  ·by_cases hn:∃k,k<new.length∧i= .loc (fresh+k)
   ·obtain⟨k,hk,rfl⟩:=hn;rw[h2n k new[k] (by simp[hk])]at hi
    exact .inr (.inl ⟨k,new[k],by omega,rfl,by simp[hk],by simpa using hi.symm⟩)
   ·rw[h2o i him (fun k hk e=>hn ⟨k,hk,e⟩)]at hi
    grind
 have hcj:∀(j:Nat) (o':AD),post[j]?=some o'→hc2 (.ext j)=some o':=fun j o' h1=>h1
 have hck:∀(k:Nat) (o':AD),new[k]?=some o'→hc2 (.loc k)=some o':=fun k o' h1=>h1
 have hz2:∀b o,Av (zone g2 h2) C.X b o→Av (zone g' hc2) Xc b o:=by
  rintro b o (⟨i,ob,hi,h1⟩ | h1)
  ·rcases cases2 i ob hi with⟨j,o',hj,hp,rfl⟩ | ⟨k,o',hk7,rfl,hp,rfl⟩ | ⟨h3,h4,h5⟩
   ·refine .inl ⟨.ext j,o',hcj j o' hp,?_⟩;rw[hg2,rin j i hj];exact Ca.1 h1
   ·refine .inl ⟨.loc k,o',hck k o' hp,?_⟩;rw[hg2,rloc k hk7];exact Ca.1 h1
   ·rw[g2o' i h3 h4]at h1;exact .inr (.inr ⟨i,ob,h5,h3,h1⟩)
  ·exact .inr (.inl h1)
 have hz2':∀b o u,w'.cell? ⟨b,o,none⟩=some u→¬Av (zone g' hc2) Xc b o→¬Av (zone g2 h2) C.X b o:=fun b o _ _ hn hy=>hn (hz2 b o hy)
 -- the places of what the call leaves: those of its objects, and new ones
 have turned:∀(i:Id) (ob:AD) b o,(i∈m∨∃k,k<32∧i= .loc (fresh+k))→h2 i=some ob→BS (g2 i) ob b o→(∃j o0,j∈m∧σh j=some o0∧BS (g j) o0 b o)∨w.heap.size≤b:=by
  intro i ob b o ti hi h1
  have main:∀i0 o',hc2 i0=some o'→BS (g' i0) o' b o→(∃j o0,j∈m∧σh j=some o0∧BS (g j) o0 b o)∨w.heap.size≤b:=by
   intro i0 o' h3 h4;rcases CP.within i0 o' b o h3 h4 with⟨i1,o1,h5,h6⟩ | h5
   ·obtain⟨j,rfl,hm,_,hs⟩:=hcs i1 o1 h5;exact .inl ⟨_,_,List.mem_of_getElem? hm,hs,Ca.2 h6⟩
   ·exact .inr h5
  rcases cases2 i ob hi with⟨j,o',hj,hp,rfl⟩ | ⟨k,o',hk7,rfl,hp,rfl⟩ | ⟨h3,h4,_⟩
  ·rw[g2m j i hj]at h1;exact main (.ext j) o' (hcj j o' hp) (Ca.1 h1)
  ·rw[g2f k (by omega)]at h1
   exact main (.loc k) o' (hck k o' hp) (Ca.1 h1)
  ·rcases ti with ti | ⟨k,hk,rfl⟩
   ·exact absurd ti h3
   grind
 have E:HC w (Av (zone g σh) C.X) g σh w' (Av (zone g2 h2) C.X) g2 h2:=by
  have nofree:∀i,g i≠undef→∀k,k<32→i≠ .loc (fresh+k):=by
   grind
  have owfree:∀i,isTu (g i)→∀k,k<32→i≠ .loc (fresh+k):=fun i hi=>nofree i (fun e=>BT (e▸hi))
  have slfree:∀i,Il (g i)→∀k,k<32→i≠ .loc (fresh+k):=fun i hi=>nofree i (fun e=>by rw[e]at hi;exact hi)
  refine⟨fun b o u hu hn=>⟨CP.frame.cell b o u hu (fun hy=>hn (.inl (hzc b o hy))),?_⟩,fun i b hb=>?_,fun i q hq=>?_,fun i hi=>?_,fun i n sz e hi hn=>?_,fun i hi=>?_,fun i hi hn=>?_⟩
  ·rintro (⟨i,ob,hi,h1⟩ | h1)
   ·by_cases ti:i∈m∨∃k,k<32∧i= .loc (fresh+k)
    ·rcases turned i ob b o ti hi h1 with⟨j,o0,_,h3,h4⟩ | h3
     ·exact hn (.inl ⟨j,o0,h3,h4⟩)
     ·have:=World.block_lt_of_cell? w ⟨b,o,none⟩ hu;grind
    ·simp only[not_or,not_exists,not_and]at ti;rw[g2o' i ti.1 ti.2]at h1;rw[h2o i ti.1 (fun k hk=>ti.2 k (by omega))]at hi
     exact hn (.inl ⟨i,ob,hi,h1⟩)
   ·exact hn (.inr h1)
  ·exact g2o i (fun ht=>SX (hb▸ht)) (nofree i (by rw[hb];simp[undef]))
  ·exact g2o i (fun ht=>SY (hq▸ht)) (nofree i (by rw[hq];simp[undef]))
  ·rw[g2o i (Eh hi) (slfree i hi)];exact hi
  ·have hgi:=g2o i (Eh hi) (slfree i hi);rcases cases2 i _ hn with⟨j,o',hj,hp,ho⟩ | ⟨k,o',hk7,rfl,hp,ho⟩ | ⟨h3,h4,h5⟩
   ·obtain⟨o0,h6,h7⟩:=Da hk hp;have:=hpre j i o0 hj h6;cases o'<;>simp[AD.A0]at ho
    obtain⟨rfl,rfl,rfl⟩:=ho;cases o0<;>simp[sameKind]at h7
    grind
   ·grind
   grind
  ·exact (g2t i (owfree i hi)).isTu hi
  ·refine⟨?_,(g2t i (owfree i hi)).gval⟩;cases ho:h2 i with
   | none=>rw[ho]at hn;cases hn
   | some ob=>
    rw[ho]at hn;rcases cases2 i ob ho with⟨j,o',hj,hp,rfl⟩ | ⟨k,o',hk7,rfl,hp,rfl⟩ | ⟨h3,h4,h5⟩
    ·obtain⟨o0,h6,h7⟩:=Da hk hp;rw[hpre j i o0 hj h6];exact DM.trans (Jr h7 (DM.symm.trans hn))
    ·grind
    ·rw[h5];exact hn
 have R2:AY C (fun n=>F n∧¬(fresh≤n∧n<fresh+32)) σs h2 g2 a w':=by
  refine R.step (fun i=>i∈m∨∃k,k<32∧i= .loc (fresh+k)) E (CP.frame.weaken hzc) ?_ ?_ ?_ ?_ ?_ ?_ ?_
  ·intro i hi;simp only[not_or,not_exists,not_and]at hi;exact⟨h2o i hi.1 (fun k hk=>hi.2 k (by omega)),g2o' i hi.1 hi.2⟩
  ·intro i o b hi ho hb;simp only[not_or,not_exists,not_and]at hi;refine CP.frame.block b ((R.heap.objs i o ho).lt hb) ?_
   rintro o' ⟨i',ob,hi',h1⟩
   obtain⟨j,rfl,hm,_,hs⟩:=hcs i' ob hi';have e:=R.heap.sep _ _ _ _ b ho hs hb (C5.2 h1.HA);exact hi.1 (e▸List.mem_of_getElem? hm)
  ·intro i o hi ho;rcases cases2 i o ho with⟨j,o',hj,hp,rfl⟩ | ⟨k,o',hk7,rfl,hp,rfl⟩ | ⟨h3,h4,_⟩
   ·have:=CP.heap.objs (.ext j) o' (hcj j o' hp);rw[hg2,rin j i hj]at this;exact BL.push (r:=r) hz2' hg2 ht2 hw2 this
   ·have:=CP.heap.objs (.loc k) o' (hck k o' hp);rw[hg2,rloc k hk7]at this;exact BL.push (r:=r) hz2' hg2 ht2 hw2 this
   ·rcases hi with hi | ⟨k,hk,rfl⟩
    ·exact absurd hi h3
    grind
  ·intro i ob b o ti hi h1;rcases turned i ob b o ti hi h1 with⟨j,o0,h2,h3,h4⟩ | h3
   ·grind
   ·exact .inr h3
  ·intro i i' oi oi' b hi hi' ho ho' hb hb'
   have pre1:∀(i:Id) (o:AD),(i∈m∨∃k,k<32∧i= .loc (fresh+k))→h2 i=some o→∃i0 o0,hc2 i0=some o0∧r i0=i∧g' i0=g2 i∧o=o0.A0 r:=by
    intro i o hi ho;rcases cases2 i o ho with⟨j,o',hj,hp,rfl⟩ | ⟨k,o',hk7,rfl,hp,rfl⟩ | ⟨h3,h4,_⟩
    ·exact⟨.ext j,o',hcj j o' hp,rin j i hj,by rw[hg2,rin j i hj],rfl⟩
    ·exact⟨.loc k,o',hck k o' hp,rloc k hk7,by rw[hg2,rloc k hk7],rfl⟩
    ·rcases hi with hi | ⟨k,hk,rfl⟩
     ·exact absurd hi h3
     grind
   obtain⟨i0,o0,q1,q2,q3,q4⟩:=pre1 i oi hi ho;obtain⟨i1,o1,p1,p2,p3,p4⟩:=pre1 i' oi' hi' ho';rw[←q3,q4]at hb;rw[←p3,p4]at hb';have:=CP.heap.sep i0 i1 o0 o1 b q1 p1 (C5.1 hb) (C5.1 hb');grind
  ·grind
  ·rintro n ⟨hn,hn2⟩
   obtain⟨h3,h4⟩:=R.free n hn;have hne:∀k,k<32→Id.loc n≠ .loc (fresh+k):=fun k hk e=>hn2 (by simp at e;omega)
   have hnm:Id.loc n∉m:=fun hm=>mlive _ hm h4
   exact⟨(g2o' _ hnm hne).trans h3,(h2o _ hnm (fun k hk=>hne k (by omega))).trans h4⟩
 exact⟨g2,E.map,R2.put hd (An.push (r:=r) hz2' hg2 ht2 hw2 CP.res)⟩
end Go.AM
namespace Go.AM
open Go Go.RowKit
def FH (w:World) (Z:Ak) (g:AP) (h:Heap) (cs:List CV) (vs:Array Value):Prop:=
 vs.size=cs.length∧∀(j:Nat) c u,cs[j]?=some c→vs[j]?=some u→BB w Z g h c u
theorem PN (off:Nat):∀(l:List Value) (n:Nat) (cells:Array Value),
  ((l.zipIdx n).foldl (fun cs x=>cs.setIfInBounds (off+x.2) x.1) cells).size=cells.size∧
  ∀k,k<cells.size→((l.zipIdx n).foldl (fun cs x=>cs.setIfInBounds (off+x.2) x.1) cells)[k]?=if off+n≤k∧k<off+n+l.length then l[k - (off+n)]? else cells[k]?
 | [],n,cells=>⟨rfl,fun k hk=>by simp_all⟩
 | v::l,n,cells=>by
  obtain⟨h1,h2⟩:=PN off l (n+1) (cells.setIfInBounds (off+n) v);refine⟨by simpa using h1,fun k hk=>?_⟩
  have:=h2 k (by simpa using hk)
  simp only[List.zipIdx_cons,List.foldl_cons];grind
theorem MU {w:World}{Z:Ak}{g:AP}{h:Heap}{cs ys:List CV}{vs us:Array Value}{off:Nat}(hc:FH w Z g h cs vs) (hy:FH w Z g h ys us) (hb:off+ys.length≤cs.length):
  FH w Z g h (cs.take off++ys++cs.drop (off+ys.length)) (us.zipIdx.foldl (fun cs (c,j)=>cs.setIfInBounds (off+j) c) vs):=by
 have e:us.zipIdx.foldl (fun cs (c,j)=>cs.setIfInBounds (off+j) c) vs=(us.toList.zipIdx 0).foldl (fun cs x=>cs.setIfInBounds (off+x.2) x.1) vs:=by
  rw[←Array.foldl_toList,Array.toList_zipIdx]
 rw[e];obtain⟨h1,h2⟩:=PN off us.toList 0 vs;refine⟨by rw[h1,hc.1];simp;omega,fun j c u hj hu=>?_⟩
 have hlt:j<vs.size:=by grind
 rw[h2 j hlt]at hu;have hl:=hy.1
 by_cases ha:j<off
 ·rw[if_neg (by omega)]at hu
  rw[List.append_assoc,List.getElem?_append_left (by simp;omega),List.getElem?_take_of_lt ha]at hj
  exact hc.2 j c u hj hu
 ·by_cases hb':j<off+ys.length
  ·rw[if_pos (by simp;omega)]at hu
   rw[List.getElem?_append_left (by simp;omega),List.getElem?_append_right (by simp;omega)]at hj
   have e1:j - (cs.take off).length=j - (off+0):=by simp;omega
   rw[e1]at hj;exact hy.2 _ c u hj (by simpa using hu)
  ·rw[if_neg (by simp;omega)]at hu
   rw[List.getElem?_append_right (by simp;omega),List.getElem?_drop]at hj
   have e1:off+ys.length+(j - (cs.take off++ys).length)=j:=by simp;omega
   rw[e1]at hj;exact hc.2 j c u hj hu
theorem SZ {α β:Type}{f:α→Option β}:∀{l:List α}{ps:List β},l.mapM f=some ps→∀(i:Nat) a,l[i]?=some a→f a=ps[i]?
 | [],ps,_,i,a,ha=>by simp at ha
 | x::l,ps,h,i,a,ha=>by
  simp only[List.mapM_cons,Option.bind_eq_bind,Option.pure_def]at h;cases hx:f x with
  | none=>simp[hx]at h
  | some y=>
   cases hl:l.mapM f with
   | none=>simp[hx,hl]at h
   | some ys=>
    simp[hx,hl]at h;subst h
    match i with
    | 0=>simp_all
    | i+1=>simp at ha;simpa using SZ hl i a ha
theorem Sa {P:Program}{ti:Types}(hti:Ay P ti) {s:AL}{fs:List Field}{places:List (Nat×Nat)}(hp:fs.mapM (fun f=>(P.info? f.type).map fun i=>(f.offset,i.size))=some places) {k:List CV→Prop}:
  ∀(L:List (Nat×Operand)) (cs:List CV),PC ti s fs cs L k→∃cs',k cs'∧∀(w:World) (Z:Ak) (g:AP) (h:Heap) (ev:Operand→Value) (vs:Array Value),
   (∀t i p,(i,p)∈L→An w Z g h (AX ti s t p) (ev p))→FH w Z g h cs vs→
   ∃vs',Instr.fill (places.toArray[·]?) vs (L.map fun x=>(x.1,ev x.2))=some vs'∧FH w Z g h cs' vs'
 | [],cs,hk=>⟨cs,hk,fun w Z g h ev vs _ hc=>⟨vs,rfl,hc⟩⟩
 | (i,x)::L,cs,hk=>by
  unfold PC at hk;split at hk
  ·rename_i fd hfd;obtain⟨j,hj,hk⟩:=AF.1 hk;obtain⟨y,hy,hk⟩:=Cb.1 hk;obtain⟨hl,hk⟩:=AA.1 hk;obtain⟨hb,hk⟩:=AA.1 hk;have hl:=Nat.eq_of_beq_eq_true hl;have hb:=Nat.le_of_ble_eq_true hb;obtain⟨cs',h1,h2⟩:=Sa hti hp L _ hk;refine⟨cs',h1,fun w Z g h ev vs hev hc=>?_⟩
   have hr:=hev fd.type i x (by simp)
   rw[hy]at hr;obtain⟨hs1,hs2⟩:=Ah.cells hr;obtain⟨_,ii,hi1,hi2,_⟩:=hti _ _ hj
   have hpl:places[i]?=some (fd.offset,j.size):=by
    rw[←SZ hp i fd hfd,hi1];simp[hi2]
   rw[←hl]at h2;obtain⟨vs',h3,h4⟩:=h2 w Z g h ev _ (fun t i' p hp'=>hev t i' p (List.mem_cons_of_mem _ hp')) (MU (off:=fd.offset) hc ⟨hs1,hs2⟩ (by omega))
   refine⟨vs',?_,h4⟩;have e:places.toArray[i]?=some (fd.offset,j.size):=by simpa using hpl
   simp only[List.map_cons,Instr.fill,e];rw[if_neg (by rw[hs1,hc.1];simp;omega)]
   exact h3
  ·exact hk.elim
theorem Sb {ti:Types}{s:AL}{e:TypeId}{sz:Nat}{k:List CV→Prop}:
  ∀(L:List (Nat×Operand)) (cs:List CV),PD ti s e sz cs L k→∃cs',k cs'∧∀(w:World) (Z:Ak) (g:AP) (h:Heap) (ev:Operand→Value) (vs:Array Value),
   (∀t i p,(i,p)∈L→An w Z g h (AX ti s t p) (ev p))→FH w Z g h cs vs→
   ∃vs',Instr.fill (fun i=>some (i*sz,sz)) vs (L.map fun x=>(x.1,ev x.2))=some vs'∧FH w Z g h cs' vs'
 | [],cs,hk=>⟨cs,hk,fun w Z g h ev vs _ hc=>⟨vs,rfl,hc⟩⟩
 | (i,x)::L,cs,hk=>by
  unfold PD at hk;obtain⟨y,hy,hk⟩:=Cb.1 hk;obtain⟨hl,hk⟩:=AA.1 hk;obtain⟨hb,hk⟩:=AA.1 hk;have hl:=Nat.eq_of_beq_eq_true hl;have hb:=Nat.le_of_ble_eq_true hb;obtain⟨cs',h1,h2⟩:=Sb L _ hk;refine⟨cs',h1,fun w Z g h ev vs hev hc=>?_⟩
  have hr:=hev e i x (by simp)
  rw[hy]at hr;obtain⟨hs1,hs2⟩:=Ah.cells hr;subst hl;obtain⟨vs',h3,h4⟩:=h2 w Z g h ev _ (fun t i' p hp'=>hev t i' p (List.mem_cons_of_mem _ hp')) (MU (off:=i*y.cells.length) hc ⟨hs1,hs2⟩ (by omega))
  refine⟨vs',?_,h4⟩;simp only[List.map_cons,Instr.fill];rw[if_neg (by rw[hs1,hc.1];simp;omega)]
  exact h3
theorem Sc {P:Program}{ti:Types}(hti:Ay P ti):∀(fs:List Field),SO ti fs=true→∃places,fs.mapM (fun f=>(P.info? f.type).map fun i=>(f.offset,i.size))=some places
 | [],_=>⟨[],rfl⟩
 | f::fs,h=>by
  unfold SO at h;split at h
  ·rename_i x hx;obtain⟨l,hl⟩:=Sc hti fs h;obtain⟨_,ii,hi1,_⟩:=hti _ _ hx;simp_all
  ·simp at h
section
variable {C:Cx}{ti:Types}{o:Oper}{fresh:Nat}{s:AL}{h:Heap}{k:Out→Prop}
theorem Zo (hti:Ay C.P ti) (t:TypeId) (parts:Array (Nat×Operand)) (ho:o.op= .build t parts) (hk:HH ti s t parts.toList k):∃out,k out∧BN C o fresh s h out:=by
 unfold HH at hk;obtain⟨q,hq,hk⟩:=AF.1 hk;split at hk
 ·rename_i fs hd;obtain⟨ha,hk⟩:=AA.1 hk;obtain⟨places,hp⟩:=Sc hti _ ha;obtain⟨cs',hk,hx⟩:=Sa hti hp _ _ hk;refine⟨_,hk,AE fun F σs σh g a w R hs _=>?_⟩
  obtain⟨hu,ii,h1,h2,h3,h4,h5,h6,h7⟩:=hti t q hq
  obtain⟨vs',hf,hr⟩:=hx w (Av (zone g σh) C.X) g σh a.eval q.zero.cells (fun t' i p hp'=>AI ti t' p R (s:=s) (fun k hk=>hs k (by
   subst hk;simp only[ho,Op.operands];grind))) ⟨by rw[h5,h6],fun j c u hc hu=>EE (h7 j c u hc hu)⟩
  refine⟨.agg vs',?_,(Ah.Aa hr.1 hr.2).1 rfl⟩
  have hb:C.P.built t (parts.map fun (i,x)=>(i,a.eval x)).toList=some vs':=by
   unfold Program.built;simp_all
  have:=run_build w t _ vs' hb;simp[execOp,ho,this]
 ·rename_i n e hd;obtain⟨j,hj,hk⟩:=AF.1 hk;obtain⟨cs',hk,hx⟩:=Sb _ _ hk;refine⟨_,hk,AE fun F σs σh g a w R hs _=>?_⟩
  obtain⟨hu,ii,h1,h2,h3,h4,h5,h6,h7⟩:=hti t q hq
  obtain⟨vs',hf,hr⟩:=hx w (Av (zone g σh) C.X) g σh a.eval q.zero.cells (fun t' i p hp'=>AI ti t' p R (s:=s) (fun k hk=>hs k (by
   subst hk;simp only[ho,Op.operands];grind))) ⟨by rw[h5,h6],fun j c u hc hu=>EE (h7 j c u hc hu)⟩
  refine⟨.agg vs',?_,(Ah.Aa hr.1 hr.2).1 rfl⟩;rw[hd]at hu;have e2:=Dr hti hj w;have hz:(zeroValue t).run C.P w= .ok q.zero w:=by simp[zeroValue,typeInfo,h1,h4]
  have hu':(underlying t).run C.P w= .ok (.array n e) w:=by simp[underlying,hu]
  have:(Instr.build t (parts.map fun (i,x)=>(i,a.eval x))).run C.P w= .ok (.agg vs') w:=by
   unfold Instr.build;simp_all
  simp[execOp,ho,this]
 ·exact hk.elim
end
end Go.AM
