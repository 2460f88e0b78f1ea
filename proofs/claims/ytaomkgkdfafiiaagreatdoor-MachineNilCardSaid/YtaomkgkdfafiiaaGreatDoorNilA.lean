/- Part of a proof. No condition. (Part 1.) -/
import Derived.WalkKit
import Derived.Orders
import Derived.Laws.AppendOwn
import Derived.RangeFuncLeaves
import Derived.RangeFuncCalls
import Derived.RangeFuncRecord
import Derived.Deep.MidRow
set_option linter.unusedVariables false
set_option linter.unusedSimpArgs false
namespace Go.AM
open Go Go.RowKit
inductive D where
 | int (k:IntKind) (n:Int)
 | bool (b:Bool)
 | str (s:ByteArray)
 | agg (cs:List D)
 | list (ag:Bool) (sz:Nat) (rows:List D)
 | nil
 | box (cs:List D)
 | map (sz:Nat) (rows:List D)
def D.cells:D→List D
 | .agg cs=>cs
 | x=>[x]
def D.isAgg:D→Bool
 | .agg _=>true
 | _=>false
def D.fits (ag:Bool) (sz:Nat) (x:D):Prop:=x.isAgg=ag∧x.cells.length=sz∧∀c∈x.cells,c.isAgg=false
def rowOf (ag:Bool) (ds:List D):D:=
 match ag with
 | true=>.agg ds
 | false=>match ds with
  | [d]=>d
  | _=>.agg ds
def rowsOf (ag:Bool) (sz n:Nat) (ds:List D):List D:=(List.range n).map fun i=>rowOf ag ((ds.drop (i*sz)).take sz)
theorem rowsOf_get {ag:Bool}{sz n:Nat}{ds:List D}{i:Nat}{r:D}(h:(rowsOf ag sz n ds)[i]?=some r):i<n∧r=rowOf ag ((ds.drop (i*sz)).take sz):=by
 simp only[rowsOf,List.getElem?_map,Option.map_eq_some_iff]at h
 obtain⟨x,hx,rfl⟩:=h
 obtain⟨hlt,hx⟩:=List.getElem?_eq_some_iff.1 hx
 simp at hlt hx
 subst hx
 exact⟨hlt,rfl⟩
theorem rowsOf_len {ag:Bool}{sz n:Nat}{ds:List D}:(rowsOf ag sz n ds).length=n:=by simp[rowsOf]
abbrev Zone:=Nat→Nat→Prop
inductive RelD (w:World) (Z:Zone):D→Value→Prop where
 | int (k:IntKind) (n:Int):RelD w Z (.int k n) (.int k n)
 | bool (b:Bool):RelD w Z (.bool b) (.bool b)
 | str (s:ByteArray):RelD w Z (.str s) (.string s)
 | agg (cs:List D) (vs:Array Value) (hs:vs.size=cs.length) (h1:∀c∈cs,c.isAgg=false)
   (h:∀(j:Nat) c v,cs[j]?=some c→vs[j]?=some v→RelD w Z c v):RelD w Z (.agg cs) (.agg vs)
 | nil:RelD w Z .nil (.pointer none)
 | box (cs:List D) (v:Value) (hv:v.oneCell'=true):RelD w Z (.box cs) v
 | map (sz:Nat) (rows:List D) (v:Value) (hv:v.oneCell'=true):RelD w Z (.map sz rows) v
 | list (ag:Bool) (sz:Nat) (rows:List D) (a:Option Addr) (cap b o:Nat) (U:Nat→Nat→Value)
   (hcap:rows.length≤cap) (hmax:cap≤maxLen) (hfit:∀r∈rows,r.fits ag sz)
   (ha:rows≠[]→a=some ⟨b,o,none⟩)
   (hc:∀(i:Nat) r (j:Nat) c,rows[i]?=some r→r.cells[j]?=some c→w.cell? ⟨b,o+(i*sz+j),none⟩=some (U i j)∧¬Z b (o+(i*sz+j)))
   (hr:∀(i:Nat) r (j:Nat) c,rows[i]?=some r→r.cells[j]?=some c→RelD w Z c (U i j)):RelD w Z (.list ag sz rows) (.slice a rows.length cap)
theorem RelD.mono {w w':World}{Z Z':Zone}(hw:∀b o u,w.cell? ⟨b,o,none⟩=some u→¬Z b o→w'.cell? ⟨b,o,none⟩=some u∧¬Z' b o)
  {x:D} {v:Value} (h:RelD w Z x v):RelD w' Z' x v:=by
 induction h with
 | int k n=>exact .int k n
 | bool b=>exact .bool b
 | str s=>exact .str s
 | nil=>exact .nil
 | box cs v hv=>exact .box cs v hv
 | map sz rows v hv=>exact .map sz rows v hv
 | agg cs vs hs h1 _ ih=>exact .agg cs vs hs h1 ih
 | list ag sz rows a cap b o U hcap hmax hfit ha hc _ ih=>
  exact .list ag sz rows a cap b o U hcap hmax hfit ha (fun i r j c h1 h2=>hw _ _ _ (hc i r j c h1 h2).1 (hc i r j c h1 h2).2) ih
inductive Kd where
 | row
 | flat
 | box
 | map
 | fmap (e:Bool)
def Kd.froz:Kd→Bool
 | .flat=>true
 | .fmap _=>true
 | _=>false
def Kd.isM:Kd→Bool
 | .map=>true
 | .fmap _=>true
 | _=>false
def D.con:D→Option (Kd×Bool×Nat×List D)
 | .list ag sz rows=>some (.row,ag,sz,rows)
 | .box cs=>some (.box,true,cs.length,[.agg cs])
 | .map sz rows=>some (.map,true,sz,rows)
 | _=>none
def conD:Kd→Bool→Nat→List D→Option D
 | .row,ag,sz,rows=>some (.list ag sz rows)
 | .flat,_,_,_=>none
 | .fmap _,_,_,_=>none
 | .box,ag,sz,rows=>match ag with
  | true=>match rows with
   | [.agg cs]=>match Nat.beq cs.length sz with
    | true=>some (.box cs)
    | false=>none
   | _=>none
  | false=>none
 | .map,ag,sz,rows=>match ag with
  | true=>some (.map sz rows)
  | false=>none
def blk:Value→Option Nat
 | .pointer (some a)=>some a.block
 | .slice (some a) _ _=>some a.block
 | .map (some r)=>some r
 | _=>none
def flatM (m:Array MapEntry):List Value:=m.toList.flatMap fun e=>e.key::e.val.cells.toList
def valOK (b:Bool) (v:Value):Prop:=match b with
 | true=>∃vs,v= .agg vs
 | false=>v.oneCell'=true
def Holds (w:World) (k:Kd) (sz:Nat) (v:Value) (n:Nat) (xs:List Value):Prop:=
 match k with
 | .row=>∃e,w.ownsRow 0 e sz v n xs
 | .flat=>∃e,w.ownsRow 0 e sz v n xs
 | .box=>n=1∧∃b c e,v= .pointer (some ⟨b,0,none⟩)∧w.heap[b]?=some (.cells c e (0,0))∧c.toList=xs∧c.size=sz
 | .map=>∃r m clock,v= .map (some r)∧w.heap[r]?=some (.map m clock)∧m.size=n∧(∀e∈m,e.born<clock)∧(∀e∈m,e.val.cells.size+1=sz)∧flatM m=xs
 | .fmap b=>∃r m clock,v= .map (some r)∧w.heap[r]?=some (.map m clock)∧m.size=n∧(∀e∈m,e.born<clock)∧(∀e∈m,e.val.cells.size+1=sz)∧(∀e∈m,valOK b e.val)∧flatM m=xs
inductive RelO (w:World):D→Value→(Nat→Prop)→Prop where
 | int (k:IntKind) (n:Int):RelO w (.int k n) (.int k n) (fun _=>False)
 | bool (b:Bool):RelO w (.bool b) (.bool b) (fun _=>False)
 | str (s:ByteArray):RelO w (.str s) (.string s) (fun _=>False)
 | nil:RelO w .nil (.pointer none) (fun _=>False)
 | con (k:Kd) (ag:Bool) (sz:Nat) (rows:List D) (x:D) (v:Value) (xs:List Value) (U:Nat→Nat→Value) (T:Nat→Nat→Nat→Prop) (S:Nat→Prop)
   (hcon:x.con=some (k,ag,sz,rows)) (hsz:0<sz) (hfit:∀r∈rows,r.fits ag sz) (hx:Holds w k sz v rows.length xs)
   (hU:∀(i:Nat) r (j:Nat) c,rows[i]?=some r→r.cells[j]?=some c→xs[i*sz+j]?=some (U i j))
   (hr:∀(i:Nat) r (j:Nat) c,rows[i]?=some r→r.cells[j]?=some c→RelO w c (U i j) (T i j))
   (hT:∀i j b,T i j b→∃r c,rows[i]?=some r∧r.cells[j]?=some c)
   (hd1:∀i j b,T i j b→blk v≠some b)
   (hd2:∀i j i' j' b,T i j b→T i' j' b→i=i'∧j=j')
   (hS:∀b,S b↔blk v=some b∨∃i j,T i j b):RelO w x v S
def RelK (w:World) (Z:Zone) (k:Kd) (c:D) (u:Value) (T:Nat→Prop):Prop:=match k.froz with
 | true=>(RelD w Z c u∧c.isAgg=false)∧∀b,¬T b
 | false=>RelO w c u T
theorem RelK.own {w:World}{Z:Zone}{k:Kd}{c:D}{u:Value}{T:Nat→Prop}(hk:k.froz=false):RelK w Z k c u T↔RelO w c u T:=by
 unfold RelK;rw[hk]
theorem RelK.fz {w:World}{Z:Zone}{k:Kd}{c:D}{u:Value}{T:Nat→Prop}(hk:k.froz=true):RelK w Z k c u T↔(RelD w Z c u∧c.isAgg=false)∧∀b,¬T b:=by
 unfold RelK;rw[hk]
theorem RelK.map {w w':World}{Z Z':Zone}{k:Kd}{c:D}{u:Value}{T:Nat→Prop}(r:RelK w Z k c u T) (hD:RelD w Z c u→RelD w' Z' c u) (hO:RelO w c u T→RelO w' c u T):RelK w' Z' k c u T:=by
 cases h:k.froz with
 | true=>rw[RelK.fz h]at r ⊢;exact⟨⟨hD r.1.1,r.1.2⟩,r.2⟩
 | false=>rw[RelK.own h]at r ⊢;exact hO r
theorem RelD.oneCell {w:World}{Z:Zone}{x:D}{v:Value}(h:RelD w Z x v) (hx:x.isAgg=false):v.oneCell'=true:=by
 cases h<;>first | rfl | assumption | simp[D.isAgg]at hx
theorem oneCell_cells {v:Value}(h:v.oneCell'=true):v.cells=#[v]:=by
 cases v<;>first | rfl | simp[Value.oneCell']at h
theorem RelD.cellsOf {w:World}{Z:Zone}{x:D}{v:Value}(h:RelD w Z x v):
  v.cells.size=x.cells.length∧(∀(j:Nat) c u,x.cells[j]?=some c→v.cells[j]?=some u→RelD w Z c u∧c.isAgg=false):=by
 cases hx:x.isAgg with
 | true=>
  cases h with
  | agg cs vs hs h1 h=>
   refine⟨hs,fun j c u hc hu=>⟨h j c u hc hu,h1 c (List.mem_of_getElem? hc)⟩⟩
  | _=>simp[D.isAgg]at hx
 | false=>
  have e1:x.cells=[x]:=by cases x<;>first | rfl | simp[D.isAgg]at hx
  rw[e1,oneCell_cells (h.oneCell hx)]
  refine⟨rfl,fun j c u hc hu=>?_⟩
  match j with
  | 0=>simp at hc hu;subst hc;subst hu;exact⟨h,hx⟩
  | j+1=>simp at hc
inductive Id where
 | loc (n:Nat)
 | ext (n:Nat)
def Id.beq:Id→Id→Bool
 | .loc a,.loc b=>Nat.beq a b
 | .ext a,.ext b=>Nat.beq a b
 | _,_=>false
theorem Id.beq_iff {i j:Id}:Id.beq i j=true↔i=j:=by
 cases i<;>cases j<;>simp[Id.beq]
theorem Id.beq_false {i j:Id}:Id.beq i j=false↔i≠j:=by
 rw[←Bool.not_eq_true,Id.beq_iff]
instance:DecidableEq Id:=fun i j=>if h:Id.beq i j=true then .isTrue (Id.beq_iff.1 h)else .isFalse (fun e=>h (Id.beq_iff.2 e))
inductive FC where
 | p (i:Id)
 | d (x:D)
 | h
def FC.ren (m:Id→Id):FC→FC
 | .p i=>.p (m i)
 | .d x=>.d x
 | .h=>.h
def fill:List FC→List D→List FC
 | [],_=>[]
 | .h::r,d::ds=>.d d::fill r ds
 | c::r,ds=>c::fill r ds
theorem fill_ren (m:Id→Id):∀(cs:List FC) (ds:List D),(fill cs ds).map (FC.ren m)=fill (cs.map (FC.ren m)) ds
 | [],_=>rfl
 | .h::r,[]=>by simp[fill,FC.ren,fill_ren m r]
 | .h::r,d::ds=>by simp[fill,FC.ren,fill_ren m r]
 | .p i::r,ds=>by simp[fill,FC.ren,fill_ren m r]
 | .d x::r,ds=>by simp[fill,FC.ren,fill_ren m r]
inductive CV where
 | un
 | d (x:D)
 | ptr (i:Id) (o:Nat)
 | row (ag:Bool) (sz:Nat) (x:D)
 | rp (cs:List D)
 | nilp
 | fn (f:Nat) (cap:List Id)
 | nilf
 | nils (ag:Bool) (sz:Nat)
 | tl (ag:Bool) (sz:Nat) (rows:List D)
 | lst (i:Id) (ag:Bool) (sz:Nat) (rows:List D)
 | sl (i:Id) (n:Nat)
 | map (i:Id)
 | nilm
 | ap (i:Id) (base sz k o:Nat)
 | ow (i:Id)
 | op (i:Id) (sz k o:Nat)
 | yl (i:Id)
 | bm (f:Nat) (i:Id)
 | fz (f:Nat) (cs:List FC)
 | fb (i:Id)
 | kv (v:Value)
inductive V1 where
 | d (x:D)
 | c (x:CV)
 | agg (cs:List CV)
inductive AV where
 | u
 | v (x:V1)
 | t (xs:List V1)
 | df (f:Nat) (cs:List FC) (rows:List D)
structure RF where
 params:Array Tmp
 assign:Code
 body:Code
 nt:Nat
abbrev PRow:=Int×List D×List D
abbrev CRow:=(ByteArray×Bool)×Int
def ckey (x:ByteArray×Bool):Value:=.agg #[.string x.1,.bool x.2]
def cval (x:CRow):Value×Value:=(ckey x.1,.int .i64 x.2)
def MapIs (es:List MapEntry) (m:List CRow):Prop:=es.map (fun e=>(e.key,e.val))=m.map cval
inductive AObj where
 | cells (cs:List CV)
 | tok (n sz:Nat) (e:TypeId)
 | map (kt et:TypeId) (es:List CRow)
 | arr (cs1:List CV) (ag:Bool) (sz:Nat) (rows:List D) (cs2:List CV)
 | tree (kd:Kd) (ag:Bool) (sz:Nat) (rows:List D) (foc:Option (Nat×List CV))
 | pmap (n1 sz n:Nat) (rows:List PRow) (foc:Option (Nat×Id))
 | part (c:Nat) (ag:Bool) (sz:Nat) (rows:List D)
 | fnl (f:Nat) (cs:List FC) (rows:List D)
 | gone
 | rnd (r:Unit→RF) (sl:List (Nat×AV))
 | rndX (j:Option Nat)
def CV.ren (m:Id→Id):CV→CV
 | .ptr i o=>.ptr (m i) o
 | .fn f cap=>.fn f (cap.map m)
 | .lst i ag sz rows=>.lst (m i) ag sz rows
 | .sl i n=>.sl (m i) n
 | .map i=>.map (m i)
 | .ap i b sz k o=>.ap (m i) b sz k o
 | .ow i=>.ow (m i)
 | .op i sz k o=>.op (m i) sz k o
 | .yl i=>.yl (m i)
 | .bm f i=>.bm f (m i)
 | .fz f cs=>.fz f (cs.map (FC.ren m))
 | .fb i=>.fb (m i)
 | c=>c
def V1.ren (m:Id→Id):V1→V1
 | .d x=>.d x
 | .c x=>.c (x.ren m)
 | .agg cs=>.agg (cs.map (CV.ren m))
def AV.ren (m:Id→Id):AV→AV
 | .u=>.u
 | .v x=>.v (x.ren m)
 | .t xs=>.t (xs.map (V1.ren m))
 | .df f cs rows=>.df f (cs.map (FC.ren m)) rows
def AObj.ren (m:Id→Id):AObj→AObj
 | .cells cs=>.cells (cs.map (CV.ren m))
 | .tok n sz e=>.tok n sz e
 | .map kt et es=>.map kt et es
 | .arr cs1 ag sz rows cs2=>.arr (cs1.map (CV.ren m)) ag sz rows (cs2.map (CV.ren m))
 | .tree kd ag sz rows foc=>.tree kd ag sz rows (match foc with
  | some x=>some (x.1,x.2.map (CV.ren m))
  | none=>none)
 | .pmap n1 sz n rows foc=>.pmap n1 sz n rows (match foc with
  | some x=>some (x.1,m x.2)
  | none=>none)
 | .part c ag sz rows=>.part c ag sz rows
 | .fnl f cs rows=>.fnl f (cs.map (FC.ren m)) rows
 | .gone=>.gone
 | .rnd r sl=>.rnd r (sl.map fun x=>(x.1,x.2.ren m))
 | .rndX j=>.rndX j
def allB {α:Type}(p:α→Bool):List α→Bool
 | []=>true
 | x::r=>match p x with
  | true=>allB p r
  | false=>false
theorem allB_iff {α:Type}{p:α→Bool}{l:List α}:allB p l=true↔∀x∈l,p x=true:=by
 induction l with
 | nil=>simp[allB]
 | cons x l ih=>
  unfold allB
  cases h:p x<;>simp[h,ih]
abbrev Slots:=Nat→AV
def getS:List (Nat×AV)→Slots
 | [],_=>.u
 | (k,v)::r,t=>match Nat.beq k t with
  | true=>v
  | false=>getS r t
theorem getS_ren {m:Id→Id}:∀{sl:List (Nat×AV)}{t:Nat},getS (sl.map fun x=>(x.1,x.2.ren m)) t=(getS sl t).ren m
 | [],t=>rfl
 | (k,v)::r,t=>by
  show (match Nat.beq k t with | true=>v.ren m | false=>getS (r.map fun x=>(x.1,x.2.ren m)) t)=(match Nat.beq k t with | true=>v | false=>getS r t).ren m
  cases Nat.beq k t with
  | true=>rfl
  | false=>exact getS_ren (sl:=r)
abbrev Ghost:=Id→Value
abbrev Heap:=Id→Option AObj
def ptrAt:Value→Nat→Value
 | .pointer (some a),o=>.pointer (some ⟨a.block,o,none⟩)
 | v,_=>v
def slAt:Value→Nat→Value
 | .pointer (some a),n=>.slice (some ⟨a.block,0,none⟩) n n
 | v,_=>v
def isSl:Value→Prop
 | .slice _ _ _=>True
 | _=>False
def Blk (v:Value) (b:Nat):Prop:=blk v=some b∨∃vs:Array Value,v= .tuple vs∧∃k:Nat,vs[k+1]?=some (.int .i64 (b:Int))
def isTu (v:Value):Prop:=∃(vs:Array Value) (x:Value),v= .tuple vs∧vs[0]?=some x
def gval:Value→Value
 | .tuple vs=>vs.getD 0 undef
 | v=>v
def gsame (u v:Value):Prop:=v=u∨(isTu u∧isTu v∧gval v=gval u)
theorem gsame.refl (u:Value):gsame u u:=.inl rfl
theorem gsame.trans {a b c:Value}(h:gsame a b) (k:gsame b c):gsame a c:=by
 rcases h with rfl | ⟨h1,h2,h3⟩
 ·exact k
 ·rcases k with rfl | ⟨k1,k2,k3⟩
  ·exact .inr ⟨h1,h2,h3⟩
  ·exact .inr ⟨h1,k2,k3.trans h3⟩
def isLive:Option AObj→Bool
 | some (.tree ..)=>true
 | some (.pmap ..)=>true
 | some (.part ..)=>true
 | some (.fnl ..)=>true
 | _=>false
def RelF (w:World) (Z:Zone) (g:Ghost):FC→Value→Prop
 | .p i,v=>(∃b,g i= .pointer (some ⟨b,0,none⟩))∧v=ptrAt (g i) 0
 | .d x,v=>RelD w Z x v∧x.isAgg=false
 | .h,_=>False
def BoxF (w:World) (Z:Zone) (g:Ghost) (c:FC) (v:Value):Prop:=∃b u,v= .pointer (some ⟨b,0,none⟩)∧w.cell? ⟨b,0,none⟩=some u∧¬Z b 0∧RelF w Z g c u
def CloF (w:World) (Z:Zone) (g:Ghost) (f:Nat) (cs:List FC) (v:Value):Prop:=
 ∃ps:List Value,v= .func (.func f) #[] ps.toArray∧ps.length=cs.length∧∀(j:Nat) c p,cs[j]?=some c→ps[j]?=some p→BoxF w Z g c p
def FCs (m:Id→Id) (g g':Ghost):FC→FC→Prop
 | .p i,.p i'=>i=m i'∧∀b,g i= .pointer (some ⟨b,0,none⟩)→g' i'=g i
 | .d x,.d y=>y=x
 | .h,.h=>True
 | _,_=>False
theorem CloF.to {w w':World}{Z Z':Zone}{g g':Ghost}{f:Nat}{cs cs':List FC}{v:Value}(r:CloF w Z g f cs v) (hc:∀b o u,w.cell? ⟨b,o,none⟩=some u→¬Z b o→w'.cell? ⟨b,o,none⟩=some u∧¬Z' b o) (hD:∀{x:D}{v:Value},RelD w Z x v→RelD w' Z' x v)
  (m:Id→Id) (hl:cs'.length=cs.length) (h:∀(j:Nat) c c',cs[j]?=some c→cs'[j]?=some c'→FCs m g g' c c'):CloF w' Z' g' f cs' v:=by
 obtain⟨ps,hv,hs,hb⟩:=r
 refine⟨ps,hv,hs.trans hl.symm,fun j c' p hc' hp=>?_⟩
 have hj:j<cs.length:=by rw[←hl];exact (List.getElem?_eq_some_iff.1 hc').1
 obtain⟨b,u,h1,h2,h3,h4⟩:=hb j _ p (List.getElem?_eq_getElem hj) hp
 have q:=h j _ c' (List.getElem?_eq_getElem hj) hc'
 obtain⟨k1,k2⟩:=hc _ _ _ h2 h3
 refine⟨b,u,h1,k1,k2,?_⟩
 cases he:cs[j]with
 | p i=>
  rw[he]at h4 q
  cases c' with
  | p i'=>
   obtain⟨⟨b',hb'⟩,hu⟩:=h4
   have e:=q.2 b' hb'
   exact⟨⟨b',by rw[e];exact hb'⟩,by rw[e];exact hu⟩
  | _=>exact q.elim
 | d x=>
  rw[he]at h4 q
  cases c' with
  | d y=>rw[show y=x from q];exact⟨hD h4.1,h4.2⟩
  | _=>exact q.elim
 | h=>
  rw[he]at h4
  exact h4.elim
def RelC (w:World) (Z:Zone) (g:Ghost) (h:Heap):CV→Value→Prop
 | .un,v=>v.oneCell'=true
 | .d x,v=>RelD w Z x v∧x.isAgg=false
 | .ptr i o,v=>(∃b,g i= .pointer (some ⟨b,0,none⟩))∧v=ptrAt (g i) o
 | .row ag sz x,v=>x.fits ag sz∧∃b o,v= .pointer (some ⟨b,o,none⟩)∧∃U:Nat→Value,∀(j:Nat) c,x.cells[j]?=some c→w.cell? ⟨b,o+j,none⟩=some (U j)∧¬Z b (o+j)∧RelD w Z c (U j)
 | .rp cs,v=>(∀c∈cs,c.isAgg=false)∧∃b o,v= .pointer (some ⟨b,o,none⟩)∧∃U:Nat→Value,∀(j:Nat) c,cs[j]?=some c→w.cell? ⟨b,o+j,none⟩=some (U j)∧¬Z b (o+j)∧RelD w Z c (U j)
 | .nilp,v=>v= .pointer none
 | .fn f cap,v=>v= .func (.func f) #[] (cap.map (fun i=>ptrAt (g i) 0)).toArray∧∀i∈cap,∃b,g i= .pointer (some ⟨b,0,none⟩)
 | .nilf,v=>v= .nilFunc
 | .nils _ _,v=>v= .slice none 0 0
 | .tl ag sz rows,v=>RelD w Z (.list ag sz rows) v∧∃a,v= .slice a rows.length rows.length
 | .lst i ag sz rows,v=>RelD w Z (.list ag sz rows) v∧isSl (g i)∧∀n sz' e,h i=some (.tok n sz' e)→sz'=sz∧rows.length≤n∧(rows.length=n→v=g i)
 | .sl i n,v=>(∃b,g i= .pointer (some ⟨b,0,none⟩))∧v=slAt (g i) n
 | .map i,v=>v=g i∧∃r,g i= .map (some r)
 | .nilm,v=>v= .map none
 | .ap i base sz k o,v=>(∃b,g i= .pointer (some ⟨b,0,none⟩))∧v=ptrAt (g i) (base+(k*sz+o))
 | .ow i,v=>v.oneCell'=true∧isTu (g i)∧(isLive (h i)=true→v=gval (g i))
 | .op i sz k o,v=>v.oneCell'=true∧isTu (g i)∧(isLive (h i)=true→∃b,blk (gval (g i))=some b∧v= .pointer (some ⟨b,k*sz+o,none⟩))
 | .yl i,v=>∃l,g i= .map (some l)∧v= .func (.yield l) #[] #[]
 | .bm f i,v=>(∃b,g i= .pointer (some ⟨b,0,none⟩))∧v= .func (.func f) #[ptrAt (g i) 0] #[]
 | .fz f cs,v=>CloF w Z g f cs v
 | .fb i,v=>BoxF w Z g (.p i) v
 | .kv u,v=>v=u∧u.oneCell'=true
def RelV1 (w:World) (Z:Zone) (g:Ghost) (h:Heap):V1→Value→Prop
 | .d x,v=>RelD w Z x v
 | .c x,v=>RelC w Z g h x v
 | .agg cs,v=>∃vs:Array Value,v= .agg vs∧vs.size=cs.length∧∀(j:Nat) c u,cs[j]?=some c→vs[j]?=some u→RelC w Z g h c u
def RelAV (w:World) (Z:Zone) (g:Ghost) (h:Heap):AV→Value→Prop
 | .u,_=>True
 | .v x,v=>RelV1 w Z g h x v
 | .t xs,v=>∃vs:Array Value,v= .tuple vs∧vs.size=xs.length∧∀(j:Nat) c u,xs[j]?=some c→vs[j]?=some u→RelV1 w Z g h c u
 | .df _ _ _,_=>True
def RelPart (w:World) (Z:Zone) (c:Nat) (ag:Bool) (sz:Nat) (rows:List D) (v:Value) (S:Nat→Prop):Prop:=
 0<sz∧(∀r∈rows,r.fits ag sz)∧∃(a:Option Addr) (cap b o:Nat),v= .slice a (c+rows.length) cap∧c+rows.length≤cap∧cap≤maxLen∧(0<c+rows.length→a=some ⟨b,o,none⟩)∧
  ∃(U:Nat→Nat→Value) (T:Nat→Nat→Nat→Prop),
   (∀(i:Nat) r (j:Nat) d,rows[i]?=some r→r.cells[j]?=some d→w.cell? ⟨b,o+((c+i)*sz+j),none⟩=some (U i j)∧¬Z b (o+((c+i)*sz+j))∧RelO w d (U i j) (T i j))∧
   (∀i j b,T i j b→∃r d,rows[i]?=some r∧r.cells[j]?=some d)∧(∀i j i' j' b,T i j b→T i' j' b→i=i'∧j=j')∧∀b,S b↔∃i j,T i j b
def RelRing (w:World) (Z:Zone) (c1:List D) (sz:Nat) (L:List D) (b:Nat):Prop:=(∀r∈L,r.fits true sz)∧∃c e,w.heap[b]?=some (.cells c e (0,0))∧c.size=c1.length+L.length*sz∧
 (∀(j:Nat) x u,c1[j]?=some x→c[j]?=some u→RelD w Z x u∧x.isAgg=false)∧∀(i:Nat) r (j:Nat) x,L[i]?=some r→r.cells[j]?=some x→∃u,c[c1.length+(i*sz+j)]?=some u∧RelD w Z x u
theorem RelRing.mono {w w':World}{Z Z':Zone}{c1:List D}{sz:Nat}{L:List D}{b:Nat}(h:RelRing w Z c1 sz L b) (hb:w'.heap[b]?=w.heap[b]?) (hD:∀{x:D}{v:Value},RelD w Z x v→RelD w' Z' x v):RelRing w' Z' c1 sz L b:=by
 obtain⟨h0,c,e,h1,h2,h3,h4⟩:=h
 exact⟨h0,c,e,by rw[hb];exact h1,h2,fun j x u hx hu=>⟨hD (h3 j x u hx hu).1,(h3 j x u hx hu).2⟩,fun i r j x hr hx=>(h4 i r j x hr hx).imp fun u q=>⟨q.1,hD q.2⟩⟩
def Borns (m:Array MapEntry) (clock:Nat):Prop:=(∀e∈m,e.born<clock)∧(m.toList.map (·.born)).Nodup
def RelObj (w:World) (Z:Zone) (g:Ghost) (h:Heap):AObj→Value→Prop
 | .cells cs,gv=>∃b c e,gv= .pointer (some ⟨b,0,none⟩)∧w.heap[b]?=some (.cells c e (0,0))∧c.size=cs.length∧
   ∀(j:Nat) x u,cs[j]?=some x→c[j]?=some u→RelC w Z g h x u
 | .tok n sz e,gv=>0<sz∧∃xs,w.ownsRow 0 e sz gv n xs
 | .map _ _ es,gv=>∃r m clock,gv= .map (some r)∧w.heap[r]?=some (.map m clock)∧Borns m clock∧MapIs m.toList es
 | .arr cs1 ag sz rows cs2,gv=>(∀r∈rows,r.fits ag sz)∧∃b c e,gv= .pointer (some ⟨b,0,none⟩)∧w.heap[b]?=some (.cells c e (0,0))∧c.size=cs1.length+rows.length*sz+cs2.length∧
   (∀(j:Nat) x u,cs1[j]?=some x→c[j]?=some u→RelC w Z g h x u)∧
   (∀(i:Nat) r (j:Nat) x,rows[i]?=some r→r.cells[j]?=some x→∃u,c[cs1.length+(i*sz+j)]?=some u∧RelD w Z x u)∧
   (∀(j:Nat) x u,cs2[j]?=some x→c[cs1.length+rows.length*sz+j]?=some u→RelC w Z g h x u)
 | .tree kd ag sz rows foc,gv=>isTu gv∧0<sz∧(∀r∈rows,r.fits ag sz)∧∃xs,Holds w kd sz (gval gv) rows.length xs∧
   (∀k cs,foc=some (k,cs)→k<rows.length∧cs.length=sz∧∀(j:Nat) c u,cs[j]?=some c→xs[k*sz+j]?=some u→RelC w Z g h c u)∧
   ∃(U:Nat→Nat→Value) (T:Nat→Nat→Nat→Prop),
    (∀(i:Nat) r (j:Nat) c,(∀k cs,foc=some (k,cs)→i≠k)→rows[i]?=some r→r.cells[j]?=some c→xs[i*sz+j]?=some (U i j)∧RelK w Z kd c (U i j) (T i j))∧
    (∀i j b,T i j b→(∀k cs,foc=some (k,cs)→i≠k)∧∃r c,rows[i]?=some r∧r.cells[j]?=some c)∧(∀i j b,T i j b→blk (gval gv)≠some b)∧
    (∀i j i' j' b,T i j b→T i' j' b→i=i'∧j=j')∧∀b,Blk gv b↔blk (gval gv)=some b∨∃i j,T i j b
 | .pmap n1 sz n rows foc,gv=>isTu gv∧∃(r:Nat) (m:Array MapEntry) (clock:Nat) (B:Nat→Nat),gval gv= .map (some r)∧w.heap[r]?=some (.map m clock)∧m.size=rows.length∧(∀e∈m,e.born<clock)∧
   (∀(k:Nat) x e,rows[k]?=some x→m[k]?=some e→e.key= .int .i64 x.1∧e.val= .pointer (some ⟨B k,0,none⟩))∧
   (∀(k:Nat) j,foc=some (k,j)→k<rows.length∧g j= .pointer (some ⟨B k,0,none⟩))∧
   (∀(k:Nat) x,rows[k]?=some x→(∀j,foc≠some (k,j))→RelRing w Z x.2.1 sz x.2.2 (B k))∧
   (∀i k,i<rows.length→k<rows.length→B i=B k→i=k)∧(∀k,k<rows.length→B k≠r)∧
   ∀b,Blk gv b↔b=r∨∃k,k<rows.length∧(∀j,foc≠some (k,j))∧b=B k
 | .part c ag sz rows,gv=>isTu gv∧RelPart w Z c ag sz rows (gval gv) (Blk gv)
 | .fnl f cs rows,gv=>isTu gv∧(∀b,Blk gv b↔blk (gval gv)=some b)∧∃xs,Holds w .row 1 (gval gv) rows.length xs∧∀(k:Nat) r u,rows[k]?=some r→xs[k]?=some u→CloF w Z g f (fill cs r.cells) u
 | .gone,_=>True
 | .rnd r sl,gv=>∃l L,gv= .map (some l)∧w.heap[l]?=some (.loop L)∧L.state= .ready∧L.pending=none∧L.params=(r ()).params∧L.assign=(r ()).assign∧L.body=(r ()).body∧L.tmps.size=(r ()).nt∧
   ∀t,RelAV w Z g h (getS sl t) (L.tmps.getD t undef)
 | .rndX j,gv=>∃l L,gv= .map (some l)∧w.heap[l]?=some (.loop L)∧L.state= .done∧L.pending=some (match j with | none=>.ret | some id=>.exit id)
def zone1 (gv:Value) (ob:AObj):Zone:=fun b o=>match ob with | .tok n sz _=>Blk gv b∧n*sz≤o | .gone=>False | _=>Blk gv b
def Obk (gv:Value) (ob:AObj) (b:Nat):Prop:=match ob with | .gone=>False | _=>Blk gv b
theorem Obk.blk {gv:Value}{ob:AObj}{b:Nat}(h:Obk gv ob b):Blk gv b:=by cases ob<;>first | exact h | exact h.elim
theorem zone1.obk {gv:Value}{ob:AObj}{b o:Nat}(h:zone1 gv ob b o):Obk gv ob b:=by cases ob<;>first | exact h | exact h.1
theorem Obk.zone {gv:Value}{ob:AObj}{b:Nat}(h:Obk gv ob b):∃o,zone1 gv ob b o:=by
 cases ob with
 | tok n sz e=>exact⟨n*sz,h,Nat.le_refl _⟩
 | gone=>exact h.elim
 | _=>exact⟨0,h⟩
def zone (g:Ghost) (h:Heap):Zone:=fun b o=>∃i ob,h i=some ob∧zone1 (g i) ob b o
def zor (Z X:Zone):Zone:=fun b o=>Z b o∨X b o
structure RelH (w:World) (X:Zone) (g:Ghost) (h:Heap):Prop where
 objs:∀i o,h i=some o→RelObj w (zor (zone g h) X) g h o (g i)
 sep:∀i j oi oj b,h i=some oi→h j=some oj→Obk (g i) oi b→Obk (g j) oj b→i=j
 apart:∀i oi b o,h i=some oi→Obk (g i) oi b→¬X b o
structure Frame' (Z:Zone) (w w':World):Prop where
 os:w'.os=w.os
 tape:w'.tape=w.tape
 output:w'.output=w.output
 size:w.heap.size≤w'.heap.size
 block:∀b,b<w.heap.size→(∀o,¬Z b o)→w'.heap[b]?=w.heap[b]?
 cell:∀b o u,w.cell? ⟨b,o,none⟩=some u→¬Z b o→w'.cell? ⟨b,o,none⟩=some u
theorem Frame'.refl (Z:Zone) (w:World):Frame' Z w w:=⟨rfl,rfl,rfl,Nat.le_refl _,fun _ _ _=>rfl,fun _ _ _ h _=>h⟩
theorem Frame'.trans {Z:Zone}{a b c:World}(h:Frame' Z a b) (k:Frame' Z b c):Frame' Z a c:=
  ⟨k.os.trans h.os,k.tape.trans h.tape,k.output.trans h.output,Nat.le_trans h.size k.size,
   fun i hi hz=>(k.block i (Nat.lt_of_lt_of_le hi h.size) hz).trans (h.block i hi hz),fun i o u hu hz=>k.cell i o u (h.cell i o u hu hz) hz⟩
theorem Frame'.weaken {Z Z':Zone}{a b:World}(h:Frame' Z a b) (hz:∀b o,Z b o→Z' b o):Frame' Z' a b:=
 ⟨h.os,h.tape,h.output,h.size,fun i hi hn=>h.block i hi (fun o hz'=>hn o (hz _ _ hz')),fun i o u hu hn=>h.cell i o u hu (fun hz'=>hn (hz _ _ hz'))⟩
structure Inv where
 blocks:Nat→Prop
 rel:World→Prop
 same:∀{w w':World},(∀b,blocks b→w'.heap[b]?=w.heap[b]?)→rel w→rel w'
def Inv.at (I:Inv) (w:World) (Z:Zone):Prop:=I.rel w∧∀b,I.blocks b→b<w.heap.size∧∀o,¬Z b o
theorem Inv.at.mono {I:Inv}{w:World}{Z Z':Zone}(h:I.at w Z) (hz:∀b o,Z' b o→Z b o):I.at w Z':=⟨h.1,fun b hb=>⟨(h.2 b hb).1,fun o ho=>(h.2 b hb).2 o (hz b o ho)⟩⟩
def Inv.none:Inv:=⟨fun _=>False,fun _=>True,fun _ _=>trivial⟩
structure Mach where
 P:Program
 I:Inv
 /-- May closures be deferred? -/
 cl:Bool
 /-- What holds where code panics: of the value, the state. -/
 pn:Value→List (Nat×AV)→List (Id×AObj)→Nat→Prop
 split:Bool→(Bool→Prop)→Prop
 split_iff:∀c A,split c A↔A c
 lock:(Unit→Prop)→Prop
 lock_iff:∀p,lock p↔p ()
 eqI:Int→Int→Bool
 eqI_eq:∀a b,eqI a b=(a==b)
 ltI:Int→Int→Bool
 ltI_eq:∀a b,ltI a b=decide (a<b)
 leI:Int→Int→Bool
 leI_eq:∀a b,leI a b=decide (a≤b)
 eqS:ByteArray→ByteArray→Bool
 eqS_eq:∀a b,eqS a b=(a.toList==b.toList)
 ltS:ByteArray→ByteArray→Bool
 ltS_eq:∀a b,ltS a b=Op.bytesLess a.toList b.toList
 lenI:List D→Int
 lenI_eq:∀l,lenI l=(l.length:Int)
 szI:ByteArray→Int
 szI_eq:∀s,szI s=(s.size:Int)
def fenceOf:Option Nat→Fence
 | none=>Fence.wide
 | some l=>Fence.wide.inRound l
def markOf (r:Nat):Deferred:={target:=.collected r,args:=#[]}
def DT:Nat:=1000
def DfM (w:World) (Z:Zone) (g:Ghost) (f:Nat) (cs:List FC) (rows:List D) (ds:List Deferred):Prop:=
 ds.length=rows.length∧∀(k:Nat) r d,rows[k]?=some r→ds[k]?=some d→∃ps:Array Value,d=⟨.fn (.func f) ps,#[]⟩∧CloF w Z g f (fill cs r.cells) (.func (.func f) #[] ps)
def DefOK (w:World) (Z:Zone) (g:Ghost) (cl:Bool) (v:AV) (ds:List Deferred) (D:List Nat):Prop:=
 match cl with
 | false=>ds=D.map markOf
 | true=>∀f cs rows,v= .df f cs rows→DfM w Z g f cs rows ds
theorem DefOK.un {w w':World}{Z Z':Zone}{g g':Ghost}{cl:Bool}{v v':AV}{ds:List Deferred}{D:List Nat}(h:DefOK w Z g cl v ds D) (hv:∀f cs rows,v'≠ .df f cs rows):DefOK w' Z' g' cl v' ds D:=by
 cases cl with
 | false=>exact h
 | true=>exact fun f cs rows e=>absurd e (hv f cs rows)
structure Cx where
 M:Mach
 nt:Nat
 w0:World
 Z0:Zone
 X:Zone
 g0:Ghost
 hinv:M.I.at w0 (zor Z0 X)
 ro:Option Nat
 D:List Nat
 hro:∀l,ro=some l→(∃L,w0.heap[l]?=some (.loop L))∧∀o,¬Z0 l o
 hD:∀r∈D,w0.heap[r]?=some (.deferred (some []))∧∀o,¬Z0 r o
 hDn:D.Nodup
 hcl:M.cl=true→nt≤DT∧ro=none
abbrev Cx.P (C:Cx):Program:=C.M.P
structure RelS (C:Cx) (F:Nat→Prop) (s:Slots) (h:Heap) (g:Ghost) (a:Act) (w:World):Prop where
 size:a.tmps.size=C.nt
 defers:DefOK w (zor (zone g h) C.X) g C.M.cl (s DT) a.defers C.D
 slots:∀t,RelAV w (zor (zone g h) C.X) g h (s t) (a.tmps.getD t undef)
 heap:RelH w C.X g h
 frame:Frame' C.Z0 C.w0 w
 ext:∀j,gsame (C.g0 (.ext j)) (g (.ext j))
 within:∀i ob b o,h i=some ob→zone1 (g i) ob b o→C.Z0 b o∨C.w0.heap.size≤b
 xs:∀b o,C.X b o→b<C.w0.heap.size
 free:∀n,F n→g (.loc n)=undef∧h (.loc n)=none
theorem RelS.marks {C:Cx}{F:Nat→Prop}{s:Slots}{h:Heap}{g:Ghost}{a:Act}{w:World}(R:RelS C F s h g a w) (hc:C.M.cl=false):a.defers=C.D.map markOf:=by
 have:=R.defers
 rw[hc]at this
 exact this
theorem RelS.inv {C:Cx}{F:Nat→Prop}{s:Slots}{h:Heap}{g:Ghost}{a:Act}{w:World}(R:RelS C F s h g a w):C.M.I.at w (zor (zone g h) C.X):=by
 obtain⟨h1,h2⟩:=C.hinv
 refine⟨C.M.I.same (fun b hb=>?_) h1,fun b hb=>⟨Nat.lt_of_lt_of_le (h2 b hb).1 R.frame.size,?_⟩⟩
 ·exact R.frame.block b (h2 b hb).1 (fun o hz=>(h2 b hb).2 o (.inl hz))
 ·rintro o (⟨i,ob,hi,hz⟩ | hx)
  ·rcases R.within i ob b o hi hz with hz | hz
   ·exact (h2 b hb).2 o (.inl hz)
   ·have:=(h2 b hb).1
    omega
  ·exact (h2 b hb).2 o (.inr hx)
def Rel (C:Cx) (F:Nat→Prop) (s:Slots) (h:Heap) (a:Act) (w:World):Prop:=∃g,RelS C F s h g a w
end Go.AM
namespace Go.AM
open Go Go.RowKit
structure Evo (w:World) (Z:Zone) (g:Ghost) (h:Heap) (w':World) (Z':Zone) (g':Ghost) (h':Heap):Prop where
 cell:∀b o u,w.cell? ⟨b,o,none⟩=some u→¬Z b o→w'.cell? ⟨b,o,none⟩=some u∧¬Z' b o
 ptr:∀i b,g i= .pointer (some ⟨b,0,none⟩)→g' i=g i
 map:∀i r,g i= .map (some r)→g' i=g i
 sl:∀i,isSl (g i)→isSl (g' i)
 tok:∀i n sz e,isSl (g i)→h' i=some (.tok n sz e)→∃n0,n0≤n∧h i=some (.tok n0 sz e)∧(n0=n→g' i=g i)
 ow:∀i,isTu (g i)→isTu (g' i)
 own:∀i,isTu (g i)→isLive (h' i)=true→isLive (h i)=true∧gval (g' i)=gval (g i)
section
variable {w w':World}{Z Z':Zone}{g g':Ghost}{h h':Heap}
theorem Evo.relD (E:Evo w Z g h w' Z' g' h') {x:D}{v:Value}(r:RelD w Z x v):RelD w' Z' x v:=r.mono E.cell
theorem Evo.relC_yl (E:Evo w Z g h w' Z' g' h') {i:Id}{v:Value}(r:∃l,g i= .map (some l)∧v= .func (.yield l) #[] #[]):∃l,g' i= .map (some l)∧v= .func (.yield l) #[] #[]:=by
 obtain⟨l,hl,hv⟩:=r
 exact⟨l,by rw[E.map i l hl];exact hl,hv⟩
theorem FCs.refl (hp:∀i b,g i= .pointer (some ⟨b,0,none⟩)→g' i=g i) (c:FC):FCs (fun i=>i) g g' c c:=by
 cases c with
 | p i=>exact⟨rfl,fun b hb=>hp i b hb⟩
 | d x=>exact rfl
 | h=>trivial
theorem Evo.cloF (E:Evo w Z g h w' Z' g' h') {f:Nat}{cs:List FC}{v:Value}(r:CloF w Z g f cs v):CloF w' Z' g' f cs v:=
 r.to E.cell E.relD (fun i=>i) rfl fun j c c' h1 h2=>by rw[h1]at h2;cases h2;exact FCs.refl E.ptr c
theorem Evo.boxF (E:Evo w Z g h w' Z' g' h') {i:Id}{v:Value}(r:BoxF w Z g (.p i) v):BoxF w' Z' g' (.p i) v:=by
 obtain⟨b,u,h1,h2,h3,⟨b',hb'⟩,hu⟩:=r
 obtain⟨k1,k2⟩:=E.cell _ _ _ h2 h3
 have e:=E.ptr i b' hb'
 exact⟨b,u,h1,k1,k2,⟨b',by rw[e];exact hb'⟩,by rw[e];exact hu⟩
theorem Evo.defOK (E:Evo w Z g h w' Z' g' h') {cl:Bool}{v:AV}{ds:List Deferred}{D:List Nat}(r:DefOK w Z g cl v ds D):DefOK w' Z' g' cl v ds D:=by
 cases cl with
 | false=>exact r
 | true=>
  intro f cs rows e
  obtain⟨h1,h2⟩:=r f cs rows e
  exact⟨h1,fun k r d hr hd=>(h2 k r d hr hd).imp fun ps q=>⟨q.1,E.cloF q.2⟩⟩
theorem Evo.relC (E:Evo w Z g h w' Z' g' h') {c:CV}{v:Value}(r:RelC w Z g h c v):RelC w' Z' g' h' c v:=by
 cases c with
 | un=>exact r
 | d x=>exact⟨E.relD r.1,r.2⟩
 | ptr i o=>
  obtain⟨⟨b,hb⟩,hv⟩:=r
  have e:=E.ptr i b hb
  exact⟨⟨b,by rw[e];exact hb⟩,by rw[e];exact hv⟩
 | row ag sz x=>
  obtain⟨hf,b,o,hv,U,hU⟩:=r
  exact⟨hf,b,o,hv,U,fun j c hc=>⟨(E.cell _ _ _ (hU j c hc).1 (hU j c hc).2.1).1,(E.cell _ _ _ (hU j c hc).1 (hU j c hc).2.1).2,E.relD (hU j c hc).2.2⟩⟩
 | rp cs=>
  obtain⟨hf,b,o,hv,U,hU⟩:=r
  exact⟨hf,b,o,hv,U,fun j c hc=>⟨(E.cell _ _ _ (hU j c hc).1 (hU j c hc).2.1).1,(E.cell _ _ _ (hU j c hc).1 (hU j c hc).2.1).2,E.relD (hU j c hc).2.2⟩⟩
 | nilp=>exact r
 | fn f cap=>
  obtain⟨hv,hc⟩:=r
  refine⟨?_,fun i hi=>?_⟩
  ·rw[hv]
   congr 2
   refine List.map_congr_left fun i hi=>?_
   obtain⟨b,hb⟩:=hc i hi
   rw[E.ptr i b hb]
  ·obtain⟨b,hb⟩:=hc i hi
   exact⟨b,by rw[E.ptr i b hb];exact hb⟩
 | nilf=>exact r
 | nils ag sz=>exact r
 | tl ag sz rows=>exact⟨E.relD r.1,r.2⟩
 | lst i ag sz rows=>
  obtain⟨hd,hs,ht⟩:=r
  refine⟨E.relD hd,E.sl i hs,fun n sz' e hn=>?_⟩
  obtain⟨n0,hle,h0,heq⟩:=E.tok i n sz' e hs hn
  obtain⟨h1,h2,h3⟩:=ht n0 sz' e h0
  exact⟨h1,Nat.le_trans h2 hle,fun hl=>by
   have:n0=n:=by omega
   rw[heq this];exact h3 (by omega)⟩
 | sl i n=>
  obtain⟨⟨b,hb⟩,hv⟩:=r
  have e:=E.ptr i b hb
  exact⟨⟨b,by rw[e];exact hb⟩,by rw[e];exact hv⟩
 | map i=>
  obtain⟨hv,m,hm⟩:=r
  have e:=E.map i m hm
  exact⟨by rw[e];exact hv,m,by rw[e];exact hm⟩
 | nilm=>exact r
 | ap i base sz k o=>
  obtain⟨⟨b,hb⟩,hv⟩:=r
  have e:=E.ptr i b hb
  exact⟨⟨b,by rw[e];exact hb⟩,by rw[e];exact hv⟩
 | ow i=>
  obtain⟨h1,h2,h3⟩:=r
  refine⟨h1,E.ow i h2,fun hm=>?_⟩
  obtain⟨h0,heq⟩:=E.own i h2 hm
  rw[heq];exact h3 h0
 | op i sz k o=>
  obtain⟨h1,h2,h3⟩:=r
  refine⟨h1,E.ow i h2,fun hm=>?_⟩
  obtain⟨h0,heq⟩:=E.own i h2 hm
  rw[heq];exact h3 h0
 | yl i=>exact E.relC_yl r
 | bm f i=>
  obtain⟨⟨b,hb⟩,hv⟩:=r
  have e:=E.ptr i b hb
  exact⟨⟨b,by rw[e];exact hb⟩,by rw[e];exact hv⟩
 | fz f cs=>exact E.cloF r
 | fb i=>exact E.boxF r
 | kv u=>exact r
theorem Evo.relV1 (E:Evo w Z g h w' Z' g' h') {c:V1}{v:Value}(r:RelV1 w Z g h c v):RelV1 w' Z' g' h' c v:=by
 cases c with
 | d x=>exact E.relD r
 | c x=>exact E.relC r
 | agg cs=>
  obtain⟨vs,hv,hs,hr⟩:=r
  exact⟨vs,hv,hs,fun j c u hc hu=>E.relC (hr j c u hc hu)⟩
theorem Evo.relAV (E:Evo w Z g h w' Z' g' h') {c:AV}{v:Value}(r:RelAV w Z g h c v):RelAV w' Z' g' h' c v:=by
 cases c with
 | u=>trivial
 | v x=>exact E.relV1 r
 | t cs=>
  obtain⟨vs,hv,hs,hr⟩:=r
  exact⟨vs,hv,hs,fun j c u hc hu=>E.relV1 (hr j c u hc hu)⟩
 | df f cs rows=>trivial
theorem ownsRow_same {e:TypeId}{sz:Nat}{v:Value}{n:Nat}{xs:List Value}(h:w.ownsRow 0 e sz v n xs)
  (hb:∀b,Blk v b→w'.heap[b]?=w.heap[b]?):w'.ownsRow 0 e sz v n xs:=by
 obtain⟨h1,h2⟩:=h
 refine⟨h1,?_⟩
 rcases h2 with h2 | ⟨q,cap,cur,hv,hg,hh,r⟩
 ·exact .inl h2
 ·exact .inr ⟨q,cap,cur,hv,hg,by rw[hb q (by rw[hv];exact .inl rfl)];exact hh,r⟩
theorem Holds.same {k:Kd}{sz:Nat}{v:Value}{n:Nat}{xs:List Value}(h:Holds w k sz v n xs) (hb:∀b,blk v=some b→w'.heap[b]?=w.heap[b]?):Holds w' k sz v n xs:=by
 cases k with
 | row=>
  obtain⟨e,h1,h2⟩:=h
  refine⟨e,h1,?_⟩
  rcases h2 with h2 | ⟨q,cap,cur,hv,hg,hh,r⟩
  ·exact .inl h2
  ·exact .inr ⟨q,cap,cur,hv,hg,by rw[hb q (by rw[hv];rfl)];exact hh,r⟩
 | flat=>
  obtain⟨e,h1,h2⟩:=h
  refine⟨e,h1,?_⟩
  rcases h2 with h2 | ⟨q,cap,cur,hv,hg,hh,r⟩
  ·exact .inl h2
  ·exact .inr ⟨q,cap,cur,hv,hg,by rw[hb q (by rw[hv];rfl)];exact hh,r⟩
 | box=>
  obtain⟨h1,b,c,e,hv,hh,r⟩:=h
  exact⟨h1,b,c,e,hv,by rw[hb b (by rw[hv];rfl)];exact hh,r⟩
 | map=>
  obtain⟨r,m,cl,hv,hh,q⟩:=h
  exact⟨r,m,cl,hv,by rw[hb r (by rw[hv];rfl)];exact hh,q⟩
 | fmap b'=>
  obtain⟨r,m,cl,hv,hh,q⟩:=h
  exact⟨r,m,cl,hv,by rw[hb r (by rw[hv];rfl)];exact hh,q⟩
theorem Holds.lt {k:Kd}{sz:Nat}{v:Value}{n:Nat}{xs:List Value}(h:Holds w k sz v n xs) {b:Nat}(hb:blk v=some b):b<w.heap.size:=by
 cases k with
 | row=>
  obtain⟨e,h1,h2⟩:=h
  rcases h2 with⟨hv,_⟩ | ⟨q,cap,cur,hv,hg,hh,_⟩
  ·rw[hv]at hb;simp[blk]at hb
  ·rw[hv]at hb
   simp[blk]at hb
   subst hb
   exact (Array.getElem?_eq_some_iff.1 hh).1
 | flat=>
  obtain⟨e,h1,h2⟩:=h
  rcases h2 with⟨hv,_⟩ | ⟨q,cap,cur,hv,hg,hh,_⟩
  ·rw[hv]at hb;simp[blk]at hb
  ·rw[hv]at hb
   simp[blk]at hb
   subst hb
   exact (Array.getElem?_eq_some_iff.1 hh).1
 | box=>
  obtain⟨h1,q,c,e,hv,hh,r⟩:=h
  rw[hv]at hb
  simp[blk]at hb
  subst hb
  exact (Array.getElem?_eq_some_iff.1 hh).1
 | map=>
  obtain⟨r,m,cl,hv,hh,q⟩:=h
  rw[hv]at hb
  simp[blk]at hb
  subst hb
  exact (Array.getElem?_eq_some_iff.1 hh).1
 | fmap b'=>
  obtain⟨r,m,cl,hv,hh,q⟩:=h
  rw[hv]at hb
  simp[blk]at hb
  subst hb
  exact (Array.getElem?_eq_some_iff.1 hh).1
theorem Holds.oneCell {k:Kd}{sz:Nat}{v:Value}{n:Nat}{xs:List Value}(h:Holds w k sz v n xs):v.oneCell'=true:=by
 cases k with
 | row=>
  obtain⟨e,h1,h2⟩:=h
  rcases h2 with⟨hv,_⟩ | ⟨q,cap,cur,hv,_⟩<;>rw[hv]<;>rfl
 | flat=>
  obtain⟨e,h1,h2⟩:=h
  rcases h2 with⟨hv,_⟩ | ⟨q,cap,cur,hv,_⟩<;>rw[hv]<;>rfl
 | box=>obtain⟨h1,q,c,e,hv,_⟩:=h;rw[hv];rfl
 | map=>obtain⟨r,m,cl,hv,_⟩:=h;rw[hv];rfl
 | fmap b'=>obtain⟨r,m,cl,hv,_⟩:=h;rw[hv];rfl
theorem flatM_len {m:List MapEntry}{sz:Nat}(h:∀e∈m,e.val.cells.size+1=sz):(m.flatMap fun e=>e.key::e.val.cells.toList).length=m.length*sz:=by
 induction m with
 | nil=>simp
 | cons e m ih=>
  rw[List.flatMap_cons,List.length_append,ih (fun x hx=>h x (by simp[hx]))]
  have:=h e (by simp)
  simp[Nat.add_mul]
  omega
theorem Holds.len {k:Kd}{sz:Nat}{v:Value}{n:Nat}{xs:List Value}(h:Holds w k sz v n xs):xs.length=n*sz:=by
 cases k with
 | row=>obtain⟨e,h1,h2⟩:=h;exact h1
 | flat=>obtain⟨e,h1,h2⟩:=h;exact h1
 | box=>obtain⟨rfl,q,c,e,hv,hh,rfl,hs⟩:=h;simp[hs]
 | map=>
  obtain⟨r,m,cl,hv,hh,hn,_,hs,rfl⟩:=h
  rw[←hn]
  exact flatM_len (fun e he=>hs e (Array.mem_toList_iff.1 he))
 | fmap b'=>
  obtain⟨r,m,cl,hv,hh,hn,_,hs,_,rfl⟩:=h
  rw[←hn]
  exact flatM_len (fun e he=>hs e (Array.mem_toList_iff.1 he))
theorem RelO.same {x:D}{v:Value}{S:Nat→Prop}(r:RelO w x v S) (hb:∀b,S b→w'.heap[b]?=w.heap[b]?):RelO w' x v S:=by
 induction r with
 | int k n=>exact .int k n
 | bool b=>exact .bool b
 | str s=>exact .str s
 | nil=>exact .nil
 | con k ag sz rows x v xs U T S hcon hsz hfit hx hU hr hT hd1 hd2 hS ih=>
  exact .con k ag sz rows x v xs U T S hcon hsz hfit (hx.same fun b h=>hb b ((hS b).2 (.inl h))) hU (fun i r j c h1 h2=>ih i r j c h1 h2 (fun b hT'=>hb b ((hS b).2 (.inr ⟨i,j,hT'⟩)))) hT hd1 hd2 hS
theorem RelO.lt {x:D}{v:Value}{S:Nat→Prop}(r:RelO w x v S):∀b,S b→b<w.heap.size:=by
 induction r with
 | int k n=>intro b h;exact h.elim
 | bool b=>intro b h;exact h.elim
 | str s=>intro b h;exact h.elim
 | nil=>intro b h;exact h.elim
 | con k ag sz rows x v xs U T S hcon hsz hfit hx hU hr hT hd1 hd2 hS ih=>
  intro b hb
  rcases (hS b).1 hb with h1 | ⟨i,j,h1⟩
  ·exact hx.lt h1
  ·obtain⟨r,c,h2,h3⟩:=hT i j b h1
   exact ih i r j c h2 h3 b h1
theorem RelK.lt {k:Kd}{Z:Zone}{x:D}{v:Value}{S:Nat→Prop}(r:RelK w Z k x v S):∀b,S b→b<w.heap.size:=by
 cases hk:k.froz with
 | true=>exact fun b h=>(((RelK.fz hk).1 r).2 b h).elim
 | false=>exact RelO.lt ((RelK.own hk).1 r)
theorem RelPart.mono {c:Nat}{ag:Bool}{sz:Nat}{rows:List D}{v:Value}{S:Nat→Prop}(r:RelPart w Z c ag sz rows v S) (hw:∀b o u,w.cell? ⟨b,o,none⟩=some u→¬Z b o→w'.cell? ⟨b,o,none⟩=some u∧¬Z' b o)
  (hb:∀b,S b→w'.heap[b]?=w.heap[b]?):RelPart w' Z' c ag sz rows v S:=by
 obtain⟨h0,hf,a,cap,b,o,hv,h1,h2,h3,U,T,h4,h5,h6,h7⟩:=r
 refine⟨h0,hf,a,cap,b,o,hv,h1,h2,h3,U,T,fun i r j d hr hd=>?_,h5,h6,h7⟩
 obtain⟨g1,g2,g3⟩:=h4 i r j d hr hd
 obtain⟨k1,k2⟩:=hw _ _ _ g1 g2
 exact⟨k1,k2,g3.same fun b hT=>hb b ((h7 b).2 ⟨i,j,hT⟩)⟩
theorem RelPart.lt {c:Nat}{ag:Bool}{sz:Nat}{rows:List D}{v:Value}{S:Nat→Prop}(r:RelPart w Z c ag sz rows v S):∀b,S b→b<w.heap.size:=by
 obtain⟨h0,hf,a,cap,b,o,hv,h1,h2,h3,U,T,h4,h5,h6,h7⟩:=r
 intro b' hb
 obtain⟨i,j,hT⟩:=(h7 b').1 hb
 obtain⟨r,d,hr,hd⟩:=h5 i j b' hT
 exact (h4 i r j d hr hd).2.2.lt b' hT
theorem RelObj.evo (E:Evo w Z g h w' Z' g' h') {o:AObj}{gv:Value}(r:RelObj w Z g h o gv)
  (hb:∀b,Obk gv o b→w'.heap[b]?=w.heap[b]?):RelObj w' Z' g' h' o gv:=by
 cases o with
 | cells cs=>
  obtain⟨b,c,e,hv,hh,hs,hr⟩:=r
  exact⟨b,c,e,hv,by rw[hb b (by rw[hv];exact .inl rfl)];exact hh,hs,fun j x u hx hu=>E.relC (hr j x u hx hu)⟩
 | tok n sz e=>
  obtain⟨h0,xs,hx⟩:=r
  exact⟨h0,xs,ownsRow_same hx hb⟩
 | map kt et es=>
  obtain⟨q,m,cl,hv,hh,hbn,hr⟩:=r
  exact⟨q,m,cl,hv,by rw[hb q (by rw[hv];exact .inl rfl)];exact hh,hbn,hr⟩
 | arr cs1 ag sz rows cs2=>
  obtain⟨hf,b,c,e,hv,hh,hs,h1,h2,h3⟩:=r
  exact⟨hf,b,c,e,hv,by rw[hb b (by rw[hv];exact .inl rfl)];exact hh,hs,fun j x u hx hu=>E.relC (h1 j x u hx hu),
   fun i r j x hr hx=>(h2 i r j x hr hx).imp fun u q=>⟨q.1,E.relD q.2⟩,fun j x u hx hu=>E.relC (h3 j x u hx hu)⟩
 | tree kd ag sz rows foc=>
  obtain⟨ht,h0,hf,xs,hx,hc,U,T,h1,h2,h3,h4,h5⟩:=r
  exact⟨ht,h0,hf,xs,hx.same fun b h=>hb b ((h5 b).2 (.inl h)),fun k cs hk=>⟨(hc k cs hk).1,(hc k cs hk).2.1,fun j c u hj hu=>E.relC ((hc k cs hk).2.2 j c u hj hu)⟩,U,T,
   fun i r j c hi hr hj=>⟨(h1 i r j c hi hr hj).1,(h1 i r j c hi hr hj).2.map E.relD fun q=>RelO.same q fun b hT=>hb b ((h5 b).2 (.inr ⟨i,j,hT⟩))⟩,h2,h3,h4,h5⟩
 | pmap n1 sz n rows foc=>
  obtain⟨ht,q,m,cl,B,hv,hh,hs,hbn,h1,h2,h3,h4,h5,h6⟩:=r
  refine⟨ht,q,m,cl,B,hv,by rw[hb q ((h6 q).2 (.inl rfl))];exact hh,hs,hbn,h1,fun k j hk=>⟨(h2 k j hk).1,by rw[E.ptr j (B k) (h2 k j hk).2];exact (h2 k j hk).2⟩,fun k x hx hk=>?_,h4,h5,h6⟩
  exact (h3 k x hx hk).mono (hb (B k) ((h6 _).2 (.inr ⟨k,(List.getElem?_eq_some_iff.1 hx).1,hk,rfl⟩))) E.relD
 | part c ag sz rows=>exact⟨r.1,r.2.mono E.cell hb⟩
 | fnl f cs rows=>
  obtain⟨ht,h1,xs,hx,hr⟩:=r
  exact⟨ht,h1,xs,hx.same fun b h=>hb b ((h1 b).2 h),fun k r u h2 h3=>E.cloF (hr k r u h2 h3)⟩
 | gone=>trivial
 | rnd rf sl=>
  obtain⟨l,L,hv,hh,h1,h2,h3,h4,h5,h6,h7⟩:=r
  exact⟨l,L,hv,by rw[hb l (by rw[hv];exact .inl rfl)];exact hh,h1,h2,h3,h4,h5,h6,fun t=>E.relAV (h7 t)⟩
 | rndX j=>
  obtain⟨l,L,hv,hh,h1,h2⟩:=r
  exact⟨l,L,hv,by rw[hb l (by rw[hv];exact .inl rfl)];exact hh,h1,h2⟩
theorem Blk.sl {q o l cap b:Nat}(h:Blk (.slice (some ⟨q,o,none⟩) l cap) b):q=b:=by
 rcases h with h | ⟨vs,h,_⟩
 ·simpa [blk] using h
 ·cases h
theorem Blk.nil {b:Nat}(h:Blk (.slice none 0 0) b):False:=by
 rcases h with h | ⟨vs,h,_⟩
 ·simp[blk]at h
 ·cases h
theorem Blk.ptr {q o b:Nat}(h:Blk (.pointer (some ⟨q,o,none⟩)) b):q=b:=by
 rcases h with h | ⟨vs,h,_⟩
 ·simpa [blk] using h
 ·cases h
theorem Blk.map {q b:Nat}(h:Blk (.map (some q)) b):q=b:=by
 rcases h with h | ⟨vs,h,_⟩
 ·simpa [blk] using h
 ·cases h
theorem Blk.undef {b:Nat}(h:Blk undef b):False:=by
 rcases h with h | ⟨vs,h,_⟩
 ·simp[blk,Go.undef]at h
 ·simp only[Go.undef,Value.tuple.injEq]at h
  subst h
  rename_i k
  obtain⟨k,hk⟩:=k
  simp at hk
theorem Blk.of_sl {v:Value}{b:Nat}(hs:isSl v) (h:Blk v b):blk v=some b:=by
 rcases h with h | ⟨vs,h,_⟩
 ·exact h
 ·rw[h]at hs;exact hs.elim
theorem ownsRow_sl {e:TypeId}{sz lo:Nat}{v:Value}{n:Nat}{xs:List Value}(h:w.ownsRow lo e sz v n xs):isSl v:=by
 rcases h.2 with⟨h3,_⟩ | ⟨q,cap,cur,h3,_⟩<;>rw[h3]<;>trivial
theorem isTu_undef (h:isTu undef):False:=by
 obtain⟨vs,x,h,hx⟩:=h
 simp only[Go.undef,Value.tuple.injEq]at h
 subst h
 simp at hx
theorem isTu_sl {v:Value}(k:isSl v) (h:isTu v):False:=by obtain⟨_,_,h,_⟩:=h;rw[h]at k;exact k
theorem ownsRow_lt {e:TypeId}{sz:Nat}{v:Value}{n:Nat}{xs:List Value}(h:w.ownsRow 0 e sz v n xs) {b:Nat}(hb:Blk v b):b<w.heap.size:=by
 obtain⟨_,h2⟩:=h
 rcases h2 with⟨hv,_⟩ | ⟨q,cap,cur,hv,hg,hh,_⟩
 ·rw[hv]at hb;exact hb.nil.elim
 ·rw[hv]at hb
  have:=hb.sl
  subst this
  exact (Array.getElem?_eq_some_iff.1 hh).1
theorem RelObj.lt {o:AObj}{gv:Value}(r:RelObj w Z g h o gv) {b:Nat}(hb:Obk gv o b):b<w.heap.size:=by
 cases o with
 | cells cs=>
  obtain⟨b',c,e,hv,hh,_⟩:=r
  have hb:Blk gv b:=hb
  rw[hv]at hb
  have:=hb.ptr
  subst this
  exact (Array.getElem?_eq_some_iff.1 hh).1
 | tok n sz e=>
  obtain⟨_,xs,hx⟩:=r
  exact ownsRow_lt hx hb
 | map kt et es=>
  obtain⟨q,m,cl,hv,hh,_⟩:=r
  have hb:Blk gv b:=hb
  rw[hv]at hb
  have:=hb.map
  subst this
  exact (Array.getElem?_eq_some_iff.1 hh).1
 | arr cs1 ag sz rows cs2=>
  obtain⟨_,b',c,e,hv,hh,_⟩:=r
  have hb:Blk gv b:=hb
  rw[hv]at hb
  have:=hb.ptr
  subst this
  exact (Array.getElem?_eq_some_iff.1 hh).1
 | tree kd ag sz rows foc=>
  obtain⟨ht,h0,hf,xs,hx,hc,U,T,h1,h2,h3,h4,h5⟩:=r
  rcases (h5 b).1 hb with h12 | ⟨i,j,h12⟩
  ·exact hx.lt h12
  ·obtain⟨hi,r,c,p1,p2⟩:=h2 i j b h12
   exact RelK.lt (h1 i r j c hi p1 p2).2 b h12
 | pmap n1 sz n rows foc=>
  obtain⟨ht,q,m,cl,B,hv,hh,hs,hbn,h1,h2,h3,h4,h5,h6⟩:=r
  rcases (h6 b).1 hb with rfl | ⟨k,hk,hf,rfl⟩
  ·exact (Array.getElem?_eq_some_iff.1 hh).1
  ·obtain⟨_,c,e,g1,_⟩:=h3 k rows[k] (List.getElem?_eq_getElem hk) hf
   exact (Array.getElem?_eq_some_iff.1 g1).1
 | part c ag sz rows=>exact r.2.lt b hb
 | fnl f cs rows=>
  obtain⟨ht,h1,xs,hx,hr⟩:=r
  exact hx.lt ((h1 b).1 hb)
 | gone=>exact hb.elim
 | rnd rf sl=>
  obtain⟨l,L,hv,hh,_⟩:=r
  have hb:Blk gv b:=hb
  rw[hv]at hb
  have:=hb.map
  subst this
  exact (Array.getElem?_eq_some_iff.1 hh).1
 | rndX j=>
  obtain⟨l,L,hv,hh,_⟩:=r
  have hb:Blk gv b:=hb
  rw[hv]at hb
  have:=hb.map
  subst this
  exact (Array.getElem?_eq_some_iff.1 hh).1
theorem RelH.upd {X:Zone}(R:RelH w X g h) (T:Id→Prop) (hX:∀b o,X b o→b<w.heap.size)
  (E:Evo w (zor (zone g h) X) g h w' (zor (zone g' h') X) g' h')
  (hsame:∀i,¬T i→h' i=h i∧g' i=g i)
  (hworld:∀i o b,¬T i→h i=some o→Obk (g i) o b→w'.heap[b]?=w.heap[b]?)
  (hobj:∀i o,T i→h' i=some o→RelObj w' (zor (zone g' h') X) g' h' o (g' i))
  (hblk:∀i o b,T i→h' i=some o→Obk (g' i) o b→(∃j o0,T j∧h j=some o0∧Obk (g j) o0 b)∨w.heap.size≤b)
  (hsep:∀i j oi oj b,T i→T j→h' i=some oi→h' j=some oj→Obk (g' i) oi b→Obk (g' j) oj b→i=j):
  RelH w' X g' h':=by
 have lt:∀i o b,h i=some o→Obk (g i) o b→b<w.heap.size:=fun i o b ho hb=>(R.objs i o ho).lt hb
 have mixed:∀i j oi oj b,T i→¬T j→h' i=some oi→h' j=some oj→Obk (g' i) oi b→Obk (g' j) oj b→i=j:=by
  intro i j oi oj b ti tj hi hj bi bj
  rw[(hsame j tj).1]at hj
  rw[(hsame j tj).2]at bj
  rcases hblk i oi b ti hi bi with⟨j0,o0,t0,h0,b0⟩ | hge
  ·exact absurd (R.sep j0 j o0 oj b h0 hj b0 bj▸t0) tj
  ·exact absurd (lt j oj b hj bj) (by omega)
 refine⟨fun i o ho=>?_,fun i j oi oj b hi hj bi bj=>?_,fun i oi b o hi bi hx=>?_⟩
 ·by_cases ti:T i
  ·exact hobj i o ti ho
  ·rw[(hsame i ti).1]at ho
   rw[(hsame i ti).2]
   exact (R.objs i o ho).evo E (fun b hb=>hworld i o b ti ho hb)
 ·by_cases ti:T i
  ·by_cases tj:T j
   ·exact hsep i j oi oj b ti tj hi hj bi bj
   ·exact mixed i j oi oj b ti tj hi hj bi bj
  ·by_cases tj:T j
   ·exact (mixed j i oj oi b tj ti hj hi bj bi).symm
   ·rw[(hsame i ti).1]at hi
    rw[(hsame i ti).2]at bi
    rw[(hsame j tj).1]at hj
    rw[(hsame j tj).2]at bj
    exact R.sep i j oi oj b hi hj bi bj
 ·by_cases ti:T i
  ·rcases hblk i oi b ti hi bi with⟨j0,o0,t0,h0,b0⟩ | hge
   ·exact R.apart j0 o0 b o h0 b0 hx
   ·exact absurd (hX b o hx) (by omega)
  ·rw[(hsame i ti).1]at hi
   rw[(hsame i ti).2]at bi
   exact R.apart i oi b o hi bi hx
end
def updS (s:Slots) (d:Option Tmp) (v:AV):Slots:=
 match d with
 | some d=>fun t=>if t=d then v else s t
 | none=>s
def updG (g:Ghost) (i:Id) (v:Value):Ghost:=fun j=>if j=i then v else g j
def updO (h:Heap) (i:Id) (o:AObj):Heap:=fun j=>if j=i then some o else h j
theorem RelS.step {C:Cx}{F F':Nat→Prop}{s:Slots}{h h':Heap}{g g':Ghost}{a:Act}{w w':World}(R:RelS C F s h g a w) (T:Id→Prop)
    (E:Evo w (zor (zone g h) C.X) g h w' (zor (zone g' h') C.X) g' h')
    (hF:Frame' (zone g h) w w')
    (hsame:∀i,¬T i→h' i=h i∧g' i=g i)
    (hworld:∀i o b,¬T i→h i=some o→Obk (g i) o b→w'.heap[b]?=w.heap[b]?)
    (hobj:∀i o,T i→h' i=some o→RelObj w' (zor (zone g' h') C.X) g' h' o (g' i))
    (hzon:∀i ob b o,T i→h' i=some ob→zone1 (g' i) ob b o→(∃j o0,T j∧h j=some o0∧zone1 (g j) o0 b o)∨w.heap.size≤b)
    (hsep:∀i j oi oj b,T i→T j→h' i=some oi→h' j=some oj→Obk (g' i) oi b→Obk (g' j) oj b→i=j)
    (hext:∀j,T (.ext j)→gsame (g (.ext j)) (g' (.ext j)))
    (hfree:∀n,F' n→g' (.loc n)=undef∧h' (.loc n)=none):
    RelS C F' s h' g' a w':=by
  have hX:∀b o,C.X b o→b<w.heap.size:=fun b o hx=>Nat.lt_of_lt_of_le (R.xs b o hx) R.frame.size
  have hnz:∀b o,b<C.w0.heap.size→¬C.Z0 b o→¬zone g h b o:=by
    rintro b o hb hz ⟨i,ob,hi,h1⟩
    rcases R.within i ob b o hi h1 with h2 | h2
    · exact hz h2
    · omega
  have hfr:Frame' C.Z0 C.w0 w':=
    ⟨hF.os.trans R.frame.os,hF.tape.trans R.frame.tape,hF.output.trans R.frame.output,Nat.le_trans R.frame.size hF.size,
     fun b hb hz=>(hF.block b (Nat.lt_of_lt_of_le hb R.frame.size) (fun o=>hnz b o hb (hz o))).trans (R.frame.block b hb hz),
     fun b o u hu hz=>hF.cell b o u (R.frame.cell b o u hu hz) (hnz b o (World.block_lt_of_cell? C.w0 ⟨b,o,none⟩ hu) hz)⟩
  have hblk:∀i o b,T i→h' i=some o→Obk (g' i) o b→(∃j o0,T j∧h j=some o0∧Obk (g j) o0 b)∨w.heap.size≤b:=by
    intro i o b ti hi hb
    obtain⟨p,hp⟩:=hb.zone
    rcases hzon i o b p ti hi hp with⟨j,o0,tj,hj,h1⟩ | h1
    · exact .inl ⟨j,o0,tj,hj,h1.obk⟩
    · exact .inr h1
  refine⟨R.size,E.defOK R.defers,fun t=>E.relAV (R.slots t),R.heap.upd T hX E hsame hworld hobj hblk hsep,hfr,fun j=>?_,fun i ob b o hi hz=>?_,R.xs,hfree⟩
  · by_cases tj:T (.ext j)
    · exact (R.ext j).trans (hext j tj)
    · rw[(hsame _ tj).2]
      exact R.ext j
  · by_cases ti:T i
    · rcases hzon i ob b o ti hi hz with⟨j,o0,tj,hj,h1⟩ | h1
      · exact R.within j o0 b o hj h1
      · exact .inr (Nat.le_trans R.frame.size h1)
    · rw[(hsame _ ti).1]at hi
      rw[(hsame _ ti).2]at hz
      exact R.within i ob b o hi hz
end Go.AM
namespace Go.AM
open Go Go.RowKit
structure TI where
 desc:TypeDesc
 size:Nat
 bytes:Nat
 zero:Value
 zc:List CV
def ZRel:CV→Value→Prop
 | .d (.int k n),.int k' m=>k=k'∧n=m
 | .d (.bool b),.bool b'=>b=b'
 | .d (.str s),.string s'=>s=s'
 | .nils _ _,.slice none 0 0=>True
 | .nilp,.pointer none=>True
 | .nilf,.nilFunc=>True
 | .nilm,.map none=>True
 | .un,v=>v.oneCell'=true
 | _,_=>False
abbrev Types:=TypeId→Option TI
def TIok (P:Program) (ti:Types):Prop:=∀t x,ti t=some x→P.underlying t=some x.desc∧
 ∃i,P.info? t=some i∧i.size=x.size∧i.bytes=x.bytes∧i.zero=some x.zero∧x.zero.cells.size=x.size∧x.zc.length=x.size∧
  ∀(j:Nat) c u,x.zc[j]?=some c→x.zero.cells[j]?=some u→ZRel c u
def rowD:TypeDesc→Bool
 | .struct _ | .array _ _=>true
 | _=>false
def V1.ofC:CV→V1
 | .d x=>.d x
 | y=>.c y
def V1.cells:V1→List CV
 | .d x=>x.cells.map CV.d
 | .c x=>[x]
 | .agg cs=>cs
def allD:List CV→Option (List D)
 | []=>some []
 | .d x::r=>match allD r with
  | some ds=>some (x::ds)
  | none=>none
 | _::_=>none
def allN:List CV→Option (List D)
 | []=>some []
 | .d x::r=>match allN r with
  | some ds=>some (x::ds)
  | none=>none
 | .nils ag sz::r=>match allN r with
  | some ds=>some (.list ag sz []::ds)
  | none=>none
 | .tl ag sz rows::r=>match allN r with
  | some ds=>some (.list ag sz rows::ds)
  | none=>none
 | .lst _ ag sz rows::r=>match allN r with
  | some ds=>some (.list ag sz rows::ds)
  | none=>none
 | _::_=>none
def V1.ofCells (ag:Bool) (cs:List CV):V1:=
 match ag with
 | true=>match allD cs with
  | some ds=>.d (.agg ds)
  | none=>.agg cs
 | false=>match cs with
  | [y]=>V1.ofC y
  | _=>.c .un
def V1.norm:V1→V1
 | .c (.nils ag sz)=>.d (.list ag sz [])
 | .c (.tl ag sz rows)=>.d (.list ag sz rows)
 | .c (.lst _ ag sz rows)=>.d (.list ag sz rows)
 | .agg cs=>match allN cs with
  | some ds=>.d (.agg ds)
  | none=>.agg cs
 | x=>x
section
variable {w:World}{Z:Zone}{g:Ghost}{h:Heap}
theorem RelV1.ofC {c:CV}{v:Value}(r:RelC w Z g h c v):RelV1 w Z g h (V1.ofC c) v:=by
 cases c<;>first | exact r | exact r.1
theorem relD_nil (ag:Bool) (sz:Nat):RelD w Z (.list ag sz []) (.slice none 0 0):=
 .list ag sz [] none 0 0 0 (fun _ _=>undef) (Nat.le_refl _) (Nat.zero_le _) (by simp) (by simp) (by simp) (by simp)
theorem RelC.oneCell {c:CV}{v:Value}(r:RelC w Z g h c v):v.oneCell'=true:=by
 cases c with
 | un=>exact r
 | d x=>exact r.1.oneCell r.2
 | ptr i o=>
  obtain⟨⟨b,hb⟩,rfl⟩:=r
  rw[hb];rfl
 | row ag sz x=>obtain⟨_,b,o,rfl,_⟩:=r;rfl
 | rp cs=>obtain⟨_,b,o,rfl,_⟩:=r;rfl
 | nilp=>rw[show v=_ from r];rfl
 | fn f cap=>rw[r.1];rfl
 | nilf=>rw[show v=_ from r];rfl
 | nils ag sz=>rw[show v=_ from r];rfl
 | tl ag sz rows=>exact r.1.oneCell rfl
 | lst i ag sz rows=>exact r.1.oneCell rfl
 | sl i n=>
  obtain⟨⟨b,hb⟩,rfl⟩:=r
  rw[hb];rfl
 | map i=>
  obtain⟨rfl,m,hm⟩:=r
  rw[hm];rfl
 | nilm=>rw[show v=_ from r];rfl
 | ap i base sz k o=>
  obtain⟨⟨b,hb⟩,rfl⟩:=r
  rw[hb];rfl
 | ow i=>exact r.1
 | op i sz k o=>exact r.1
 | yl i=>obtain⟨l,_,rfl⟩:=r;rfl
 | bm f i=>rw[r.2];rfl
 | fz f cs=>obtain⟨ps,rfl,_⟩:=r;rfl
 | fb i=>obtain⟨b,u,rfl,_⟩:=r;rfl
 | kv u=>rw[r.1];exact r.2
theorem RelV1.cells {x:V1}{v:Value}(r:RelV1 w Z g h x v):
  v.cells.size=x.cells.length∧∀(j:Nat) c u,x.cells[j]?=some c→v.cells[j]?=some u→RelC w Z g h c u:=by
 cases x with
 | d x=>
  obtain⟨h1,h2⟩:=RelD.cellsOf r
  refine⟨by simpa [V1.cells] using h1,fun j c u hc hu=>?_⟩
  simp only[V1.cells,List.getElem?_map,Option.map_eq_some_iff]at hc
  obtain⟨d,hd,rfl⟩:=hc
  exact h2 j d u hd hu
 | c x=>
  have hv:v.cells=#[v]:=oneCell_cells (RelC.oneCell r)
  rw[hv]
  refine⟨rfl,fun j c u hc hu=>?_⟩
  match j with
  | 0=>simp[V1.cells]at hc hu;subst hc;subst hu;exact r
  | j+1=>simp[V1.cells]at hc
 | agg cs=>
  obtain⟨vs,rfl,hs,hr⟩:=r
  exact⟨hs,hr⟩
theorem allD_rel {cs:List CV}{ds:List D}(he:allD cs=some ds):cs=ds.map CV.d:=by
 induction cs generalizing ds with
 | nil=>simp[allD]at he;subst he;rfl
 | cons c r ih=>
  cases c<;>simp only[allD]at he<;>try (exact absurd he (by simp))
  split at he
  ·rename_i ds' hd
   simp at he
   subst he
   rw[ih hd];rfl
  ·simp at he
theorem RelV1.ofCells {ag:Bool}{cs:List CV}{vs:Array Value}(hs:vs.size=cs.length)
  (hr:∀(j:Nat) c u,cs[j]?=some c→vs[j]?=some u→RelC w Z g h c u):
  (ag=true→RelV1 w Z g h (V1.ofCells ag cs) (.agg vs))∧(ag=false→∀v,vs=#[v]→RelV1 w Z g h (V1.ofCells ag cs) v):=by
 constructor
 ·rintro rfl
  unfold V1.ofCells
  simp only[]
  split
  ·rename_i ds hd
   have e:=allD_rel hd
   subst e
   refine .agg ds vs (by simpa using hs) (fun c hc=>?_) (fun j c v hc hv=>?_)
   ·obtain⟨j,hj⟩:=List.mem_iff_getElem?.1 hc
    have hlt:j<vs.size:=by
     have:=(List.getElem?_eq_some_iff.1 hj).1
     simp at hs;omega
    exact (hr j (.d c) vs[j] (by simp[hj]) (by simp[hlt])).2
   ·exact (hr j (.d c) v (by simp[hc]) hv).1
  ·exact⟨vs,rfl,hs,hr⟩
 ·rintro rfl v rfl
  have h1:cs.length=1:=by simpa using hs.symm
  match cs,h1 with
  | [c],_=>exact RelV1.ofC (hr 0 c v rfl rfl)
theorem allN_rel {cs:List CV}{ds:List D}(he:allN cs=some ds):
  ds.length=cs.length∧∀(j:Nat) x c v,ds[j]?=some x→cs[j]?=some c→RelC w Z g h c v→RelD w Z x v∧x.isAgg=false:=by
 induction cs generalizing ds with
 | nil=>simp[allN]at he;subst he;exact⟨rfl,by simp⟩
 | cons c r ih=>
  have main:∀y,(∀v,RelC w Z g h c v→RelD w Z y v∧y.isAgg=false)→
    (match allN r with | some ds=>some (y::ds) | none=>none)=some ds→
    ds.length=(c::r).length∧∀(j:Nat) x c' v,ds[j]?=some x→(c::r)[j]?=some c'→RelC w Z g h c' v→RelD w Z x v∧x.isAgg=false:=by
   intro y hy he
   split at he
   ·rename_i ds' hd
    simp at he
    subst he
    obtain⟨h1,h2⟩:=ih hd
    refine⟨by simp[h1],fun j x c' v hx hc hr=>?_⟩
    match j with
    | 0=>simp at hx hc;subst hx;subst hc;exact hy v hr
    | j+1=>simp at hx hc;exact h2 j x c' v hx hc hr
   ·simp at he
  cases c<;>simp only[allN]at he<;>try (exact absurd he (by simp))
  ·exact main _ (fun v hr=>hr) he
  ·exact main _ (fun v hr=>by rw[show v=_ from hr];exact⟨relD_nil _ _,rfl⟩) he
  ·exact main _ (fun v hr=>⟨hr.1,rfl⟩) he
  ·exact main _ (fun v hr=>⟨hr.1,rfl⟩) he
theorem RelV1.norm {x:V1}{v:Value}(r:RelV1 w Z g h x v):RelV1 w Z g h x.norm v:=by
 cases x with
 | d x=>exact r
 | c x=>
  cases x<;>first
   | exact r
   | (rw[show v=_ from r];exact relD_nil _ _)
   | exact r.1
 | agg cs=>
  obtain⟨vs,rfl,hs,hr⟩:=r
  show RelV1 w Z g h (match allN cs with | some ds=>.d (.agg ds) | none=>.agg cs) (.agg vs)
  cases hd:allN cs with
  | some ds=>
    obtain⟨h1,h2⟩:=allN_rel (w:=w) (Z:=Z) (g:=g) (h:=h) hd
    have get:∀j,j<cs.length→∃c u,cs[j]?=some c∧vs[j]?=some u:=fun j hj=>⟨cs[j],vs[j],by simp[hj],by simp[hs,hj]⟩
    refine .agg ds vs (by omega) (fun c hc=>?_) (fun j c v hc hv=>?_)
    ·obtain⟨j,hj⟩:=List.mem_iff_getElem?.1 hc
     obtain⟨c',u,h3,h4⟩:=get j (by have:=(List.getElem?_eq_some_iff.1 hj).1;omega)
     exact (h2 j c c' u hj h3 (hr j c' u h3 h4)).2
    ·obtain⟨c',u,h3,h4⟩:=get j (by have:=(List.getElem?_eq_some_iff.1 hc).1;omega)
     rw[hv]at h4
     simp at h4
     subst h4
     exact (h2 j c c' v hc h3 (hr j c' v h3 hv)).1
  | none=>exact⟨vs,rfl,hs,hr⟩
end
def heapOf (pre:List AObj):Heap
 | .ext j=>pre[j]?
 | .loc _=>none
def heapOf2 (post new:List AObj):Heap
 | .ext j=>post[j]?
 | .loc k=>new[k]?
def sameKind:AObj→AObj→Prop
 | .cells _,.cells _=>True
 | .tok n sz e,.tok n' sz' e'=>n=n'∧sz=sz'∧e=e'
 | .map ..,.map ..=>True
 | .arr ..,.arr ..=>True
 | .tree ..,.tree ..=>True
 | .pmap ..,.pmap ..=>True
 | .rnd ..,.rnd ..=>True
 | .rnd ..,.rndX _=>True
 | .rndX _,.rndX _=>True
 | _,.gone=>True
 | _,_=>False
def allKinds:List AObj→List AObj→Prop
 | [],[]=>True
 | a::al,b::bs=>sameKind a b∧allKinds al bs
 | _,_=>False
structure CallPost (w:World) (X:Zone) (g:Ghost) (pre:List AObj) (res:AV) (post new:List AObj) (v:Value) (w':World) (g':Ghost):Prop where
 heap:RelH w' X g' (heapOf2 post new)
 res:RelAV w' (zor (zone g' (heapOf2 post new)) X) g' (heapOf2 post new) res v
 frame:Frame' (zone g (heapOf pre)) w w'
 ext:∀j,gsame (g (.ext j)) (g' (.ext j))
 within:∀i ob b o,heapOf2 post new i=some ob→zone1 (g' i) ob b o→zone g (heapOf pre) b o∨w.heap.size≤b
 none:∀k,new.length≤k→g' (.loc k)=undef
def TripK (P:Program) (I:Inv) (f:FuncId) (args:List V1) (pre:List AObj) (Q:AV→List AObj→List AObj→Prop):Prop:=
 (∃fn c,P.funcs[f]?=some fn∧fn.body=some c∧(fn.name== "runtime.NumGoroutine")=false)∧
 ∀w X g (vals:Array Value),(∀b o,X b o→b<w.heap.size)→I.at w (zor (zone g (heapOf pre)) X)→RelH w X g (heapOf pre)→(∀n,g (.loc n)=undef)→vals.size=args.length→
  (∀(j:Nat) x v,args[j]?=some x→vals[j]?=some v→RelV1 w (zor (zone g (heapOf pre)) X) g (heapOf pre) x v)→
  Calls P f vals w fun e w'=>∃v g' res post new,Q res post new∧e= .returned v∧CallPost w X g pre res post new v w' g'
def TripP (P:Program) (I:Inv) (f:FuncId) (args:List V1) (pre:List AObj) (v0:Value) (post new:List AObj):Prop:=
 (∃fn c,P.funcs[f]?=some fn∧fn.body=some c∧(fn.name== "runtime.NumGoroutine")=false)∧
 ∀w X g (vals:Array Value),(∀b o,X b o→b<w.heap.size)→I.at w (zor (zone g (heapOf pre)) X)→RelH w X g (heapOf pre)→(∀n,g (.loc n)=undef)→vals.size=args.length→
  (∀(j:Nat) x v,args[j]?=some x→vals[j]?=some v→RelV1 w (zor (zone g (heapOf pre)) X) g (heapOf pre) x v)→
  Calls P f vals w fun e w'=>∃g',e= .panicked [{v:=v0,recovered:=false}]∧CallPost w X g pre .u post new undef w' g'
def Trip (P:Program) (I:Inv) (f:FuncId) (args:List V1) (pre:List AObj) (res:AV) (post new:List AObj):Prop:=TripK P I f args pre fun r p n=>r=res∧p=post∧n=new
theorem Trip.calls {P:Program}{I:Inv}{f:FuncId}{args:List V1}{pre:List AObj}{res:AV}{post new:List AObj}(h:Trip P I f args pre res post new) {w:World}{X:Zone}{g:Ghost}{vals:Array Value}
  (h1:∀b o,X b o→b<w.heap.size) (h2:I.at w (zor (zone g (heapOf pre)) X)) (h3:RelH w X g (heapOf pre)) (h4:∀n,g (.loc n)=undef) (h5:vals.size=args.length)
  (h6:∀(j:Nat) x v,args[j]?=some x→vals[j]?=some v→RelV1 w (zor (zone g (heapOf pre)) X) g (heapOf pre) x v):
  Calls P f vals w fun e w'=>∃v g',e= .returned v∧CallPost w X g pre res post new v w' g':=
 (h.2 w X g vals h1 h2 h3 h4 h5 h6).mono (by rintro e w' ⟨v,g',_,_,_,⟨rfl,rfl,rfl⟩,he,hp⟩;exact⟨v,g',he,hp⟩)
theorem Trip.mk' {P:Program}{I:Inv}{f:FuncId}{args:List V1}{pre:List AObj}{res:AV}{post new:List AObj}(h1:∃fn c,P.funcs[f]?=some fn∧fn.body=some c∧(fn.name== "runtime.NumGoroutine")=false)
  (h:∀w X g (vals:Array Value),(∀b o,X b o→b<w.heap.size)→I.at w (zor (zone g (heapOf pre)) X)→RelH w X g (heapOf pre)→(∀n,g (.loc n)=undef)→vals.size=args.length→
   (∀(j:Nat) x v,args[j]?=some x→vals[j]?=some v→RelV1 w (zor (zone g (heapOf pre)) X) g (heapOf pre) x v)→
   Calls P f vals w fun e w'=>∃v g',e= .returned v∧CallPost w X g pre res post new v w' g'):Trip P I f args pre res post new:=
 ⟨h1,fun w X g vals k1 k2 k3 k4 k5 k6=>(h w X g vals k1 k2 k3 k4 k5 k6).mono (by rintro e w' ⟨v,g',he,hp⟩;exact⟨v,g',_,_,_,⟨rfl,rfl,rfl⟩,he,hp⟩)⟩
section
variable {w:World}{Z Z':Zone}{g g':Ghost}{h h':Heap}{r:Id→Id}
theorem CloF.pull (hz:∀b o,Z' b o→Z b o) (hg:∀i,g' i=g (r i)) (hd:∀{x:D}{u:Value},RelD w Z x u→RelD w Z' x u) {f:Nat}{cs:List FC}{v:Value}(q:CloF w Z g f (cs.map (FC.ren r)) v):CloF w Z' g' f cs v:=
 q.to (fun b o u hu hn=>⟨hu,fun hz'=>hn (hz _ _ hz')⟩) hd r (by simp) fun j c c' h1 h2=>by
  rw[List.getElem?_map,h2]at h1
  cases h1
  cases c' with
  | p i=>exact⟨rfl,fun _ _=>hg i⟩
  | d x=>exact rfl
  | h=>trivial
theorem CloF.push (hz:∀b o u,w.cell? ⟨b,o,none⟩=some u→¬Z' b o→¬Z b o) (hg:∀i,g' i=g (r i)) (hd:∀{x:D}{u:Value},RelD w Z' x u→RelD w Z x u) {f:Nat}{cs:List FC}{v:Value}(q:CloF w Z' g' f cs v):CloF w Z g f (cs.map (FC.ren r)) v:=by
 obtain⟨ps,hv,hs,hb⟩:=q
 refine⟨ps,hv,by simpa using hs,fun j c p hc hp=>?_⟩
 rw[List.getElem?_map,Option.map_eq_some_iff]at hc
 obtain⟨c',hc',rfl⟩:=hc
 obtain⟨b,u,h1,h2,h3,h4⟩:=hb j c' p hc' hp
 refine⟨b,u,h1,h2,hz _ _ _ h2 h3,?_⟩
 cases c' with
 | p i=>simp only[RelF,FC.ren,hg]at h4 ⊢;exact h4
 | d x=>exact⟨hd h4.1,h4.2⟩
 | h=>exact h4.elim
theorem RelC.pull (hz:∀b o,Z' b o→Z b o) (hg:∀i,g' i=g (r i)) (ht:∀i n sz e,h' i=some (.tok n sz e)→h (r i)=some (.tok n sz e)) (hw:∀i,isLive (h' i)=true→isLive (h (r i))=true)
  {c:CV} {v:Value} (q:RelC w Z g h (c.ren r) v):RelC w Z' g' h' c v:=by
 have hd:∀{x:D} {u:Value},RelD w Z x u→RelD w Z' x u:=fun q=>q.mono (fun b o u hu hn=>⟨hu,fun hz'=>hn (hz _ _ hz')⟩)
 cases c with
 | un=>exact q
 | d x=>exact⟨hd q.1,q.2⟩
 | ptr i o=>simp only[CV.ren,RelC,←hg]at q ⊢;exact q
 | row ag sz x=>
  obtain⟨hf,b,o,hv,U,hU⟩:=q
  exact⟨hf,b,o,hv,U,fun j c hc=>⟨(hU j c hc).1,fun hz'=>(hU j c hc).2.1 (hz _ _ hz'),hd (hU j c hc).2.2⟩⟩
 | rp cs=>
  obtain⟨hf,b,o,hv,U,hU⟩:=q
  exact⟨hf,b,o,hv,U,fun j c hc=>⟨(hU j c hc).1,fun hz'=>(hU j c hc).2.1 (hz _ _ hz'),hd (hU j c hc).2.2⟩⟩
 | nilp=>exact q
 | fn f cap=>
  simp only[CV.ren,RelC,List.map_map,List.forall_mem_map]at q ⊢
  refine⟨?_,fun i hi=>by rw[hg];exact q.2 i hi⟩
  rw[q.1]
  congr 2
  exact List.map_congr_left fun i _=>by simp[hg]
 | nilf=>exact q
 | nils ag sz=>exact q
 | tl ag sz rows=>exact⟨hd q.1,q.2⟩
 | lst i ag sz rows=>
  obtain⟨q1,q2,q3⟩:=q
  exact⟨hd q1,by rw[hg];exact q2,fun n sz' e hn=>by rw[hg];exact q3 n sz' e (ht i n sz' e hn)⟩
 | sl i n=>simp only[CV.ren,RelC,←hg]at q ⊢;exact q
 | map i=>simp only[CV.ren,RelC,←hg]at q ⊢;exact q
 | nilm=>exact q
 | ap i base sz k o=>simp only[CV.ren,RelC,←hg]at q ⊢;exact q
 | ow i=>
  obtain⟨q1,q2,q3⟩:=q
  exact⟨q1,by rw[hg];exact q2,fun hm=>by rw[hg];exact q3 (hw i hm)⟩
 | op i sz k o=>
  obtain⟨q1,q2,q3⟩:=q
  exact⟨q1,by rw[hg];exact q2,fun hm=>by rw[hg];exact q3 (hw i hm)⟩
 | yl i=>simp only[CV.ren,RelC,←hg]at q ⊢;exact q
 | bm f i=>simp only[CV.ren,RelC,←hg]at q ⊢;exact q
 | fz f cs=>exact CloF.pull hz hg hd q
 | fb i=>
  obtain⟨b,u,h1,h2,h3,h4⟩:=q
  exact⟨b,u,h1,h2,fun hz'=>h3 (hz _ _ hz'),by simp only[RelF,←hg]at h4 ⊢;exact h4⟩
 | kv u=>exact q
theorem RelC.push (hz:∀b o u,w.cell? ⟨b,o,none⟩=some u→¬Z' b o→¬Z b o) (hg:∀i,g' i=g (r i)) (ht:∀i n sz e,h (r i)=some (.tok n sz e)→h' i=some (.tok n sz e)) (hw:∀i,isLive (h (r i))=true→isLive (h' i)=true)
  {c:CV} {v:Value} (q:RelC w Z' g' h' c v):RelC w Z g h (c.ren r) v:=by
 have hd:∀{x:D} {u:Value},RelD w Z' x u→RelD w Z x u:=fun q=>q.mono (fun b o u hu hn=>⟨hu,hz b o u hu hn⟩)
 cases c with
 | un=>exact q
 | d x=>exact⟨hd q.1,q.2⟩
 | ptr i o=>simp only[CV.ren,RelC,hg]at q ⊢;exact q
 | row ag sz x=>
  obtain⟨hf,b,o,hv,U,hU⟩:=q
  exact⟨hf,b,o,hv,U,fun j c hc=>⟨(hU j c hc).1,hz _ _ _ (hU j c hc).1 (hU j c hc).2.1,hd (hU j c hc).2.2⟩⟩
 | rp cs=>
  obtain⟨hf,b,o,hv,U,hU⟩:=q
  exact⟨hf,b,o,hv,U,fun j c hc=>⟨(hU j c hc).1,hz _ _ _ (hU j c hc).1 (hU j c hc).2.1,hd (hU j c hc).2.2⟩⟩
 | nilp=>exact q
 | fn f cap=>
  simp only[CV.ren,RelC,List.map_map,List.forall_mem_map]at q ⊢
  refine⟨?_,fun i hi=>by rw[←hg];exact q.2 i hi⟩
  rw[q.1]
  congr 2
  exact List.map_congr_left fun i _=>by simp[hg]
 | nilf=>exact q
 | nils ag sz=>exact q
 | tl ag sz rows=>exact⟨hd q.1,q.2⟩
 | lst i ag sz rows=>
  obtain⟨q1,q2,q3⟩:=q
  exact⟨hd q1,by rw[←hg];exact q2,fun n sz' e hn=>by rw[←hg];exact q3 n sz' e (ht i n sz' e hn)⟩
 | sl i n=>simp only[CV.ren,RelC,hg]at q ⊢;exact q
 | map i=>simp only[CV.ren,RelC,hg]at q ⊢;exact q
 | nilm=>exact q
 | ap i base sz k o=>simp only[CV.ren,RelC,hg]at q ⊢;exact q
 | ow i=>
  obtain⟨q1,q2,q3⟩:=q
  exact⟨q1,by rw[←hg];exact q2,fun hm=>by rw[←hg];exact q3 (hw i hm)⟩
 | op i sz k o=>
  obtain⟨q1,q2,q3⟩:=q
  exact⟨q1,by rw[←hg];exact q2,fun hm=>by rw[←hg];exact q3 (hw i hm)⟩
 | yl i=>simp only[CV.ren,RelC,hg]at q ⊢;exact q
 | bm f i=>simp only[CV.ren,RelC,hg]at q ⊢;exact q
 | fz f cs=>exact CloF.push hz hg hd q
 | fb i=>
  obtain⟨b,u,h1,h2,h3,h4⟩:=q
  exact⟨b,u,h1,h2,hz _ _ _ h2 h3,by simp only[RelF,hg]at h4 ⊢;exact h4⟩
 | kv u=>exact q
theorem RelV1.pull (hz:∀b o,Z' b o→Z b o) (hg:∀i,g' i=g (r i)) (ht:∀i n sz e,h' i=some (.tok n sz e)→h (r i)=some (.tok n sz e)) (hw:∀i,isLive (h' i)=true→isLive (h (r i))=true)
  {c:V1} {v:Value} (q:RelV1 w Z g h (c.ren r) v):RelV1 w Z' g' h' c v:=by
 cases c with
 | d x=>exact RelD.mono (fun b o u hu hn=>⟨hu,fun hz'=>hn (hz _ _ hz')⟩) q
 | c x=>exact RelC.pull (r:=r) hz hg ht hw q
 | agg cs=>
  obtain⟨vs,hv,hs,hr⟩:=q
  refine⟨vs,hv,by simpa using hs,fun j c u hc hu=>RelC.pull (r:=r) hz hg ht hw (hr j (c.ren r) u (by simp[hc]) hu)⟩
theorem RelV1.push (hz:∀b o u,w.cell? ⟨b,o,none⟩=some u→¬Z' b o→¬Z b o) (hg:∀i,g' i=g (r i)) (ht:∀i n sz e,h (r i)=some (.tok n sz e)→h' i=some (.tok n sz e)) (hw:∀i,isLive (h (r i))=true→isLive (h' i)=true)
  {c:V1} {v:Value} (q:RelV1 w Z' g' h' c v):RelV1 w Z g h (c.ren r) v:=by
 cases c with
 | d x=>exact RelD.mono (fun b o u hu hn=>⟨hu,hz b o u hu hn⟩) q
 | c x=>exact RelC.push (r:=r) hz hg ht hw q
 | agg cs=>
  obtain⟨vs,hv,hs,hr⟩:=q
  refine⟨vs,hv,by simpa using hs,fun j c u hc hu=>?_⟩
  simp only[List.getElem?_map,Option.map_eq_some_iff]at hc
  obtain⟨c',hc',rfl⟩:=hc
  exact RelC.push (r:=r) hz hg ht hw (hr j c' u hc' hu)
theorem RelAV.push (hz:∀b o u,w.cell? ⟨b,o,none⟩=some u→¬Z' b o→¬Z b o) (hg:∀i,g' i=g (r i)) (ht:∀i n sz e,h (r i)=some (.tok n sz e)→h' i=some (.tok n sz e)) (hw:∀i,isLive (h (r i))=true→isLive (h' i)=true)
  {c:AV} {v:Value} (q:RelAV w Z' g' h' c v):RelAV w Z g h (c.ren r) v:=by
 cases c with
 | u=>trivial
 | v x=>exact RelV1.push (r:=r) hz hg ht hw q
 | t xs=>
  obtain⟨vs,hv,hs,hr⟩:=q
  refine⟨vs,hv,by simpa using hs,fun j c u hc hu=>?_⟩
  simp only[List.getElem?_map,Option.map_eq_some_iff]at hc
  obtain⟨c',hc',rfl⟩:=hc
  exact RelV1.push (r:=r) hz hg ht hw (hr j c' u hc' hu)
 | df f cs rows=>trivial
theorem RelAV.pull (hz:∀b o,Z' b o→Z b o) (hg:∀i,g' i=g (r i)) (ht:∀i n sz e,h' i=some (.tok n sz e)→h (r i)=some (.tok n sz e)) (hw:∀i,isLive (h' i)=true→isLive (h (r i))=true)
  {c:AV} {v:Value} (q:RelAV w Z g h (c.ren r) v):RelAV w Z' g' h' c v:=by
 cases c with
 | u=>trivial
 | v x=>exact RelV1.pull (r:=r) hz hg ht hw q
 | t xs=>
  obtain⟨vs,hv,hs,hr⟩:=q
  refine⟨vs,hv,by simpa using hs,fun j c u hc hu=>RelV1.pull (r:=r) hz hg ht hw (hr j (c.ren r) u (by simp[hc]) hu)⟩
 | df f cs rows=>trivial
theorem DefOK.pull (hz:∀b o,Z' b o→Z b o) (hg:∀i,g' i=g (r i)) {cl:Bool}{v:AV}{ds:List Deferred}{D:List Nat}(q:DefOK w Z g cl (v.ren r) ds D):DefOK w Z' g' cl v ds D:=by
 cases cl with
 | false=>exact q
 | true=>
  rintro f cs rows rfl
  obtain⟨h1,h2⟩:=q f _ rows rfl
  refine⟨h1,fun k y d hy hd=>(h2 k y d hy hd).imp fun ps p=>⟨p.1,?_⟩⟩
  have:=p.2
  rw[←fill_ren]at this
  exact CloF.pull (r:=r) hz hg (RelD.mono (fun b o u hu hn=>⟨hu,fun hz'=>hn (hz _ _ hz')⟩)) this
theorem RelObj.pull (hz:∀b o,Z' b o→Z b o) (hg:∀i,g' i=g (r i)) (ht:∀i n sz e,h' i=some (.tok n sz e)→h (r i)=some (.tok n sz e)) (hw:∀i,isLive (h' i)=true→isLive (h (r i))=true)
  {ob:AObj} {v:Value} (q:RelObj w Z g h (ob.ren r) v):RelObj w Z' g' h' ob v:=by
 cases ob with
 | cells cs=>
  obtain⟨b,c,e,hv,hh,hs,hr⟩:=q
  exact⟨b,c,e,hv,hh,by simpa using hs,fun j x u hx hu=>RelC.pull (r:=r) hz hg ht hw (hr j (x.ren r) u (by simp[hx]) hu)⟩
 | tok n sz e=>exact q
 | map kt et es=>exact q
 | arr cs1 ag sz rows cs2=>
  obtain⟨hf,b,c,e,hv,hh,hs,h1,h2,h3⟩:=q
  refine⟨hf,b,c,e,hv,hh,by simpa using hs,fun j x u hx hu=>RelC.pull (r:=r) hz hg ht hw (h1 j (x.ren r) u (by simp[hx]) hu),fun i y j x hy hx=>?_,
   fun j x u hx hu=>RelC.pull (r:=r) hz hg ht hw (h3 j (x.ren r) u (by simp[hx]) (by simpa using hu))⟩
  obtain⟨u,hu,hd⟩:=h2 i y j x hy hx
  exact⟨u,by simpa using hu,RelD.mono (fun b o u hu hn=>⟨hu,fun hz'=>hn (hz _ _ hz')⟩) hd⟩
 | tree kd ag sz rows foc=>
  obtain⟨ht',h0,hf,xs,hx,hc,U,T,h1,h2,h3,h4,h5⟩:=q
  have sk:∀{i:Nat},(∀k cs,foc=some (k,cs)→i≠k)→∀k cs,(match foc with | some x=>some (x.1,x.2.map (CV.ren r)) | none=>none)=some (k,cs)→i≠k:=by
   intro i hi k cs hk
   cases foc with
   | none=>cases hk
   | some x=>cases hk;exact hi x.1 x.2 rfl
  have sk':∀{i:Nat},(∀k cs,(match foc with | some x=>some (x.1,x.2.map (CV.ren r)) | none=>none)=some (k,cs)→i≠k)→∀k cs,foc=some (k,cs)→i≠k:=by
   rintro i hi k cs rfl
   exact hi k _ rfl
  refine⟨ht',h0,hf,xs,hx,fun k cs hk=>?_,U,T,fun i y j c hi hr hj=>⟨(h1 i y j c (sk hi) hr hj).1,(h1 i y j c (sk hi) hr hj).2.map (RelD.mono (fun b o u hu hn=>⟨hu,fun hz'=>hn (hz _ _ hz')⟩)) id⟩,fun i j b hb=>⟨sk' (h2 i j b hb).1,(h2 i j b hb).2⟩,h3,h4,h5⟩
  subst hk
  obtain⟨p1,p2,p3⟩:=hc k _ rfl
  exact⟨p1,by simpa using p2,fun j c u hj hu=>RelC.pull (r:=r) hz hg ht hw (p3 j (c.ren r) u (by simp[hj]) hu)⟩
 | pmap n1 sz n rows foc=>
  obtain⟨ht',q',m,cl,B,hv,hh,hs,hbn,h1,h2,h3,h4,h5,h6⟩:=q
  have sk:∀{k:Nat},(∀j,foc≠some (k,j))→∀j,(match foc with | some x=>some (x.1,r x.2) | none=>none)≠some (k,j):=by
   intro k hk j hj
   cases foc with
   | none=>cases hj
   | some x=>cases hj;exact hk x.2 rfl
  have sk':∀{k:Nat},(∀j,(match foc with | some x=>some (x.1,r x.2) | none=>none)≠some (k,j))→∀j,foc≠some (k,j):=by
   rintro k hk j rfl
   exact hk _ rfl
  refine⟨ht',q',m,cl,B,hv,hh,hs,hbn,h1,fun k j hk=>?_,fun k x hx hk=>?_,h4,h5,fun b=>⟨fun hb=>?_,fun hb=>?_⟩⟩
  ·subst hk
   rw[hg]
   exact h2 k _ rfl
  ·exact (h3 k x hx (sk hk)).mono rfl (RelD.mono (fun b o u hu hn=>⟨hu,fun hz'=>hn (hz _ _ hz')⟩))
  ·rcases (h6 b).1 hb with h | ⟨k,a1,a2,a3⟩
   ·exact .inl h
   ·exact .inr ⟨k,a1,sk' a2,a3⟩
  ·rcases hb with h | ⟨k,a1,a2,a3⟩
   ·exact (h6 b).2 (.inl h)
   ·exact (h6 b).2 (.inr ⟨k,a1,sk a2,a3⟩)
 | part c ag sz rows=>exact⟨q.1,q.2.mono (fun b o u hu hn=>⟨hu,fun hz'=>hn (hz _ _ hz')⟩) fun _ _=>rfl⟩
 | fnl f cs rows=>
  obtain⟨h1,h2,xs,hx,hr⟩:=q
  refine⟨h1,h2,xs,hx,fun k y u hy hu=>?_⟩
  have:=hr k y u hy hu
  rw[←fill_ren]at this
  exact CloF.pull (r:=r) hz hg (RelD.mono (fun b o u hu hn=>⟨hu,fun hz'=>hn (hz _ _ hz')⟩)) this
 | gone=>trivial
 | rnd rf sl=>
  obtain⟨l,L,hv,hh,h1,h2,h3,h4,h5,h6,h7⟩:=q
  exact⟨l,L,hv,hh,h1,h2,h3,h4,h5,h6,fun t=>RelAV.pull (r:=r) hz hg ht hw (by rw[←getS_ren];exact h7 t)⟩
 | rndX j=>exact q
theorem RelObj.push (hz:∀b o u,w.cell? ⟨b,o,none⟩=some u→¬Z' b o→¬Z b o) (hg:∀i,g' i=g (r i)) (ht:∀i n sz e,h (r i)=some (.tok n sz e)→h' i=some (.tok n sz e)) (hw:∀i,isLive (h (r i))=true→isLive (h' i)=true)
  {ob:AObj} {v:Value} (q:RelObj w Z' g' h' ob v):RelObj w Z g h (ob.ren r) v:=by
 cases ob with
 | cells cs=>
  obtain⟨b,c,e,hv,hh,hs,hr⟩:=q
  refine⟨b,c,e,hv,hh,by simpa using hs,fun j x u hx hu=>?_⟩
  simp only[List.getElem?_map,Option.map_eq_some_iff]at hx
  obtain⟨x',hx',rfl⟩:=hx
  exact RelC.push (r:=r) hz hg ht hw (hr j x' u hx' hu)
 | tok n sz e=>exact q
 | map kt et es=>exact q
 | arr cs1 ag sz rows cs2=>
  obtain⟨hf,b,c,e,hv,hh,hs,h1,h2,h3⟩:=q
  refine⟨hf,b,c,e,hv,hh,by simpa using hs,fun j x u hx hu=>?_,fun i y j x hy hx=>?_,fun j x u hx hu=>?_⟩
  ·simp only[List.getElem?_map,Option.map_eq_some_iff]at hx
   obtain⟨x',hx',rfl⟩:=hx
   exact RelC.push (r:=r) hz hg ht hw (h1 j x' u hx' hu)
  ·obtain⟨u,hu,hd⟩:=h2 i y j x hy hx
   exact⟨u,by simpa using hu,RelD.mono (fun b o u hu hn=>⟨hu,hz b o u hu hn⟩) hd⟩
  ·simp only[List.getElem?_map,Option.map_eq_some_iff]at hx
   obtain⟨x',hx',rfl⟩:=hx
   exact RelC.push (r:=r) hz hg ht hw (h3 j x' u hx' (by simpa using hu))
 | tree kd ag sz rows foc=>
  obtain⟨ht',h0,hf,xs,hx,hc,U,T,h1,h2,h3,h4,h5⟩:=q
  have sk:∀{i:Nat},(∀k cs,foc=some (k,cs)→i≠k)→∀k cs,(match foc with | some x=>some (x.1,x.2.map (CV.ren r)) | none=>none)=some (k,cs)→i≠k:=by
   intro i hi k cs hk
   cases foc with
   | none=>cases hk
   | some x=>cases hk;exact hi x.1 x.2 rfl
  have sk':∀{i:Nat},(∀k cs,(match foc with | some x=>some (x.1,x.2.map (CV.ren r)) | none=>none)=some (k,cs)→i≠k)→∀k cs,foc=some (k,cs)→i≠k:=by
   rintro i hi k cs rfl
   exact hi k _ rfl
  refine⟨ht',h0,hf,xs,hx,fun k cs hk=>?_,U,T,fun i y j c hi hr hj=>⟨(h1 i y j c (sk' hi) hr hj).1,(h1 i y j c (sk' hi) hr hj).2.map (RelD.mono (fun b o u hu hn=>⟨hu,hz b o u hu hn⟩)) id⟩,fun i j b hb=>⟨sk (h2 i j b hb).1,(h2 i j b hb).2⟩,h3,h4,h5⟩
  cases foc with
  | none=>cases hk
  | some x=>
   cases hk
   obtain⟨p1,p2,p3⟩:=hc x.1 x.2 rfl
   refine⟨p1,by simpa using p2,fun j c u hj hu=>?_⟩
   simp only[List.getElem?_map,Option.map_eq_some_iff]at hj
   obtain⟨c',hc',rfl⟩:=hj
   exact RelC.push (r:=r) hz hg ht hw (p3 j c' u hc' hu)
 | pmap n1 sz n rows foc=>
  obtain⟨ht',q',m,cl,B,hv,hh,hs,hbn,h1,h2,h3,h4,h5,h6⟩:=q
  have sk:∀{k:Nat},(∀j,foc≠some (k,j))→∀j,(match foc with | some x=>some (x.1,r x.2) | none=>none)≠some (k,j):=by
   intro k hk j hj
   cases foc with
   | none=>cases hj
   | some x=>cases hj;exact hk x.2 rfl
  have sk':∀{k:Nat},(∀j,(match foc with | some x=>some (x.1,r x.2) | none=>none)≠some (k,j))→∀j,foc≠some (k,j):=by
   rintro k hk j rfl
   exact hk _ rfl
  refine⟨ht',q',m,cl,B,hv,hh,hs,hbn,h1,fun k j hk=>?_,fun k x hx hk=>?_,h4,h5,fun b=>⟨fun hb=>?_,fun hb=>?_⟩⟩
  ·cases foc with
   | none=>cases hk
   | some x=>
    cases hk
    rw[←hg]
    exact h2 _ _ rfl
  ·exact (h3 k x hx (sk' hk)).mono rfl (RelD.mono (fun b o u hu hn=>⟨hu,hz b o u hu hn⟩))
  ·rcases (h6 b).1 hb with h | ⟨k,a1,a2,a3⟩
   ·exact .inl h
   ·exact .inr ⟨k,a1,sk a2,a3⟩
  ·rcases hb with h | ⟨k,a1,a2,a3⟩
   ·exact (h6 b).2 (.inl h)
   ·exact (h6 b).2 (.inr ⟨k,a1,sk' a2,a3⟩)
 | part c ag sz rows=>exact⟨q.1,q.2.mono (fun b o u hu hn=>⟨hu,hz b o u hu hn⟩) fun _ _=>rfl⟩
 | fnl f cs rows=>
  obtain⟨h1,h2,xs,hx,hr⟩:=q
  refine⟨h1,h2,xs,hx,fun k y u hy hu=>?_⟩
  rw[←fill_ren]
  exact CloF.push (r:=r) hz hg (RelD.mono (fun b o u hu hn=>⟨hu,hz b o u hu hn⟩)) (hr k y u hy hu)
 | gone=>trivial
 | rnd rf sl=>
  obtain⟨l,L,hv,hh,h1,h2,h3,h4,h5,h6,h7⟩:=q
  exact⟨l,L,hv,hh,h1,h2,h3,h4,h5,h6,fun t=>by rw[getS_ren];exact RelAV.push (r:=r) hz hg ht hw (h7 t)⟩
 | rndX j=>exact q
theorem zone1_ren {gv:Value}{ob:AObj}{b o:Nat}:zone1 gv (ob.ren r) b o↔zone1 gv ob b o:=by
 cases ob<;>rfl
theorem Obk_ren {gv:Value}{ob:AObj}{b:Nat}:Obk gv (ob.ren r) b↔Obk gv ob b:=by
 cases ob<;>rfl
theorem isLive_ren {ob:AObj}:isLive (some (ob.ren r))=isLive (some ob):=by
 cases ob<;>rfl
end
end Go.AM
namespace Go.AM
open Go Go.RowKit
structure Out where
 val:AV
 rd:List Id
 wr:List (Id×AObj)
def updW (h:Heap):List (Id×AObj)→Heap
 | []=>h
 | (i,o)::r=>updW (updO h i o) r
def req (c:Bool) (K:Prop):Prop:=
 match c with
 | true=>K
 | false=>False
theorem req_iff {c:Bool}{K:Prop}:req c K↔c=true∧K:=by cases c<;>simp[req]
def constV (ti:Types) (t:TypeId):Value→CV
 | .int k n=>.d (.int k n)
 | .bool b=>.d (.bool b)
 | .string s=>.d (.str s)
 | .pointer none=>.nilp
 | .nilFunc=>.nilf
 | .nilIface=>.kv .nilIface
 | .map none=>.nilm
 | .slice none 0 0=>match ti t with
  | some x=>match x.desc with
   | .slice e=>match ti e with
    | some y=>.nils (rowD y.desc) y.size
    | none=>.nils false 1
   | _=>.nils false 1
  | none=>.nils false 1
 | _=>.un
def constA (c:CV):AV:=
 match c with
 | .un=>.u
 | c=>.v (V1.ofC c)
def zc1:CV→Value→Option CV
 | .nils ag sz,.slice none 0 0=>some (.nils ag sz)
 | .d (.int _ _),.int q n=>some (.d (.int q n))
 | .d (.bool _),.bool b=>some (.d (.bool b))
 | .d (.str _),.string s=>some (.d (.str s))
 | .nilp,.pointer none=>some .nilp
 | _,_=>none
def zcs:List CV→List Value→Option (List CV)
 | [],[]=>some []
 | c::cs,v::vs=>match zc1 c v with
  | some x=>(match zcs cs vs with
   | some xs=>some (x::xs)
   | none=>none)
  | none=>none
 | _,_=>none
def constO (ti:Types) (t:TypeId) (v:Value):AV:=
 match v with
 | .agg vs=>(match ti t with
  | some x=>(match zcs x.zc vs.toList with
   | some cs=>.v (V1.ofCells true cs)
   | none=>.u)
  | none=>.u)
 | v=>constA (constV ti t v)
def opd (ti:Types) (s:Slots) (t:TypeId):Operand→AV
 | .tmp x=>s x
 | .const v=>constO ti t v
 | .func f=>.v (.c (.fn f []))
 | .global _=>.u
def withV (x:AV) (k:V1→Prop):Prop:=
 match x with
 | .v y=>k y
 | _=>False
def withB (x:AV) (k:Bool→Prop):Prop:=
 match x with
 | .v (.d (.bool b))=>k b
 | _=>False
def withI (x:AV) (k:IntKind→Int→Prop):Prop:=
 match x with
 | .v (.d (.int q n))=>k q n
 | _=>False
def withT (ti:Types) (t:TypeId) (k:TI→Prop):Prop:=
 match ti t with
 | some x=>k x
 | none=>False
def withL (x:AV) (k:Bool→Nat→List D→Prop):Prop:=
 match x with
 | .v (.d (.list ag sz rows))=>k ag sz rows
 | .v (.c (.lst _ ag sz rows))=>k ag sz rows
 | .v (.c (.nils ag sz))=>k ag sz []
 | .v (.c (.tl ag sz rows))=>k ag sz rows
 | _=>False
def outLoad (ti:Types) (t:TypeId) (x:AV) (h:Heap) (k:Out→Prop):Prop:=
 withT ti t fun i=>
 match x with
 | .v (.c (.ptr id o))=>match h id with
  | some (.cells cs)=>req (Nat.ble (o+i.size) cs.length) (k ⟨.v (V1.ofCells (rowD i.desc) ((cs.drop o).take i.size)),[id],[]⟩)
  | _=>False
 | .v (.c (.row ag sz d))=>req (rowD i.desc==ag) (req (Nat.beq sz i.size) (k ⟨.v (.d d),[],[]⟩))
 | .v (.c (.rp cs))=>req (Nat.ble i.size cs.length) (k ⟨.v (V1.ofCells (rowD i.desc) ((cs.take i.size).map CV.d)),[],[]⟩)
 | .v (.c (.ap id base sz kk o))=>match h id with
  | some (.cells cs)=>(match allN (cs.drop base)with
   | some ds=>∃(n:Nat) (r:D),Nat.ble (n*sz) ds.length=true∧(rowsOf true sz n ds)[kk]?=some r∧req (Nat.ble (o+i.size) r.cells.length) (k ⟨.v (V1.ofCells (rowD i.desc) (((r.cells.drop o).take i.size).map CV.d)),[id],[]⟩)
   | none=>req (Nat.beq i.size 1)<| req (Nat.beq sz 1)<| ∃c,cs[base+(kk*sz+o)]?=some c∧k ⟨.v (V1.ofCells (rowD i.desc) [c]),[id],[]⟩)
  | _=>False
 | .v (.c (.fb id))=>req (Nat.beq i.size 1) (k ⟨.v (V1.ofCells (rowD i.desc) [.ptr id 0]),[],[]⟩)
 | _=>False
def outStore (ti:Types) (t:TypeId) (x y:AV) (h:Heap) (k:Out→Prop):Prop:=
 withT ti t fun i=>withV y fun y=>
 match x with
 | .v (.c (.ptr id o))=>match h id with
  | some (.cells cs)=>req (Nat.ble (o+i.size) cs.length) (req (Nat.beq y.cells.length i.size)
    (k ⟨.u,[id],[(id,.cells (cs.take o++y.cells++cs.drop (o+i.size)))]⟩))
  | _=>False
 | .v (.c (.ap id base sz kk o))=>match h id with
  | some (.cells cs)=>req (Nat.beq y.cells.length i.size) (base+(kk*sz+o)+i.size≤cs.length∧∃cs',cs.take (base+(kk*sz+o))++y.cells++cs.drop (base+(kk*sz+o)+i.size)=cs'∧k ⟨.u,[id],[(id,.cells cs')]⟩)
  | _=>False
 | _=>False
def outField (ti:Types) (t:TypeId) (x:AV) (f:Nat) (k:Out→Prop):Prop:=
 withT ti t fun i=>
 match i.desc with
 | .struct fs=>match fs[f]? with
  | some fd=>withT ti fd.type fun j=>req (Nat.blt 0 j.size)<|
   match x with
   | .v (.c (.ptr id o))=>k ⟨.v (.c (.ptr id (o+fd.offset))),[],[]⟩
   | .v (.c (.row _ _ d))=>k ⟨.v (.c (.rp (d.cells.drop fd.offset))),[],[]⟩
   | .v (.c (.rp cs))=>k ⟨.v (.c (.rp (cs.drop fd.offset))),[],[]⟩
   | .v (.c (.ap id b sz kk o))=>k ⟨.v (.c (.ap id b sz kk (o+fd.offset))),[],[]⟩
   | _=>False
  | none=>False
 | _=>False
def outIndex (ti:Types) (t:TypeId) (x i:AV) (k:Out→Prop):Prop:=
 withI i fun _ n=>withT ti t fun q=>
 match q.desc with
 | .slice e=>withT ti e fun j=>match x with
  | .v (.c (.sl id len))=>∃p:Nat,(n=(p:Int)∧p<len)∧k ⟨.v (.c (.ptr id (p*j.size))),[],[]⟩
  | x=>withL x fun ag sz rows=>req (rowD j.desc==ag)<| req (Nat.beq sz j.size)<|
   ∃r,0≤n∧rows[n.toNat]?=some r∧k ⟨.v (.c (.row ag sz r)),[],[]⟩
 | .array len e=>withT ti e fun j=>
  match x with
  | .v (.c (.ptr id o))=>0≤n∧n<len∧∃c:Bool,(match c with
   | true=>k ⟨.v (.c (.ptr id (o+n.toNat*j.size))),[],[]⟩
   | false=>k ⟨.v (.c (.ap id o j.size n.toNat 0)),[],[]⟩)
  | _=>False
 | _=>False
def outLen (M:Mach) (ti:Types) (t:TypeId) (x:AV) (k:Out→Prop):Prop:=
 withT ti t fun q=>
 match q.desc with
 | .slice _=>match x with
  | .v (.c (.sl _ n))=>∃z:Int,(n:Int)=z∧k ⟨.v (.d (.int .i64 z)),[],[]⟩
  | x=>withL x fun _ _ rows=>∃z:Int,M.lenI rows=z∧k ⟨.v (.d (.int .i64 z)),[],[]⟩
 | .string=>match x with
  | .v (.d (.str s))=>∃z:Int,M.szI s=z∧k ⟨.v (.d (.int .i64 z)),[],[]⟩
  | _=>False
 | .array n _=>k ⟨.v (.d (.int .i64 n)),[],[]⟩
 | _=>False
def notB:Bool→Bool
 | true=>false
 | false=>true
def eqvB:Bool→Bool→Bool
 | true,b=>b
 | false,b=>notB b
def intOp (M:Mach) (op:BinOp) (q:IntKind) (a b:Int) (k:D→Prop):Prop:=
 match op with
 | .add=>∃z,q.wrap (a+b)=z∧k (.int q z)
 | .sub=>∃z,q.wrap (a - b)=z∧k (.int q z)
 | .mul=>∃z,q.wrap (a*b)=z∧k (.int q z)
 | .quo=>∃z,b≠0∧q.wrap (a.tdiv b)=z∧k (.int q z)
 | .rem=>∃z,b≠0∧a.tmod b=z∧k (.int q z)
 | .eql=>M.split (M.eqI a b) fun q=>k (.bool q)
 | .neq=>M.split (M.eqI a b) fun q=>k (.bool (notB q))
 | .lss=>M.split (M.ltI a b) fun q=>k (.bool q)
 | .leq=>M.split (M.leI a b) fun q=>k (.bool q)
 | .gtr=>M.split (M.ltI b a) fun q=>k (.bool q)
 | .geq=>M.split (M.leI b a) fun q=>k (.bool q)
 | _=>False
def strOp (M:Mach) (op:BinOp) (a b:ByteArray) (k:D→Prop):Prop:=
 match op with
 | .add=>∃c,a++b=c∧((a.size+b.size:Nat):Int)≤IntKind.i64.max∧k (.str c)
 | .eql=>M.split (M.eqS a b) fun q=>k (.bool q)
 | .neq=>M.split (M.eqS a b) fun q=>k (.bool (notB q))
 | .lss=>M.split (M.ltS a b) fun q=>k (.bool q)
 | _=>False
def eqOpL (op:BinOp) (c:Bool) (k:D→Prop):Prop:=
 match op with
 | .eql=>k (.bool c)
 | .neq=>k (.bool (notB c))
 | _=>False
def ifNil:Value→Value→Option Bool
 | .nilIface,.nilIface=>some true
 | .iface _ _,.nilIface=>some false
 | _,_=>none
def outBin (M:Mach) (ti:Types) (op:BinOp) (t:TypeId) (x y:AV) (k:Out→Prop):Prop:=
 let kd (d:D):Prop:=k ⟨.v (.d d),[],[]⟩
 match x,y with
 | .v (.d (.int q a)),.v (.d (.int q' b))=>req (decide (q=q')) (intOp M op q a b kd)
 | .v (.d (.str a)),.v (.d (.str b))=>strOp M op a b kd
 | .v (.d (.bool a)),.v (.d (.bool b))=>withT ti t fun i=>match i.desc with
  | .bool=>(match op with
   | .eql=>∃q,eqvB a b=q∧kd (.bool q)
   | .neq=>∃q,notB (eqvB a b)=q∧kd (.bool q)
   | _=>False)
  | _=>False
 | .v (.c (.ptr _ _)),.v (.c .nilp)=>withT ti t fun i=>match i.desc with
  | .pointer _=>eqOpL op false kd
  | _=>False
 | .v (.c .nilp),.v (.c .nilp)=>withT ti t fun i=>match i.desc with
  | .pointer _=>eqOpL op true kd
  | _=>False
 | .v (.c (.map _)),.v (.c .nilm)=>withT ti t fun i=>match i.desc with
  | .map _ _=>eqOpL op false kd
  | _=>False
 | .v (.c .nilm),.v (.c .nilm)=>withT ti t fun i=>match i.desc with
  | .map _ _=>eqOpL op true kd
  | _=>False
 | .v (.c (.kv u)),.v (.c (.kv v))=>withT ti t fun i=>match i.desc with
  | .interface ms=>req ms.isEmpty (match ifNil u v with
   | some q=>eqOpL op q kd
   | none=>False)
  | _=>False
 | _,_=>False
def outUn (op:UnOp) (x:AV) (k:Out→Prop):Prop:=
 match op,x with
 | .not,.v (.d (.bool b))=>∃q,notB b=q∧k ⟨.v (.d (.bool q)),[],[]⟩
 | .neg,.v (.d (.int q a))=>∃z,q.wrap (0 - a)=z∧k ⟨.v (.d (.int q z)),[],[]⟩
 | _,_=>False
def caps:List AV→Option (List Id)
 | []=>some []
 | .v (.c (.ptr i 0))::r=>match caps r with
  | some l=>some (i::l)
  | none=>none
 | _::_=>none
def renM (m:List Id) (fresh:Nat):Id→Id
 | .ext j=>match m[j]? with
  | some i=>i
  | none=>.loc (fresh+31)
 | .loc k=>.loc (fresh+(if k<31 then k else 31))
def vals1:List AV→Option (List V1)
 | []=>some []
 | .v x::r=>match vals1 r with
  | some l=>some (x.norm::l)
  | none=>none
 | _::_=>none
def wrM (m:List Id) (r:Id→Id):List AObj→List (Id×AObj)
 | []=>[]
 | o::os=>match m with
  | i::is=>(i,o.ren r)::wrM is r os
  | []=>[]
def wrNew (fresh:Nat) (r:Id→Id):Nat→List AObj→List (Id×AObj)
 | _,[]=>[]
 | k,o::os=>(.loc (fresh+k),o.ren r)::wrNew fresh r (k+1) os
def outCall (P:Program) (I:Inv) (f:FuncId) (args:List V1) (fresh:Nat) (h:Heap) (k:Out→Prop):Prop:=
 ∃(m:List Id) (targs:List V1) (pre:List AObj) (res:AV) (post new:List AObj),
  Trip P I f targs pre res post new∧args=targs.map (V1.ren (renM m fresh))∧m.length=pre.length∧m.Nodup∧
  (∀(j:Nat) i o,m[j]?=some i→pre[j]?=some o→h i=some (o.ren (renM m fresh)))∧allKinds pre post∧new.length≤31∧
  k ⟨res.ren (renM m fresh),m,wrM m (renM m fresh) post++wrNew fresh (renM m fresh) 0 new⟩
def withArgs (l:List AV) (k:List V1→Prop):Prop:=
 match vals1 l with
 | some xs=>k xs
 | none=>False
def vals0:List AV→Option (List V1)
 | []=>some []
 | .v x::r=>match vals0 r with
  | some l=>some (x::l)
  | none=>none
 | _::_=>none
def valsB (l:List AV) (xs:List V1):Prop:=vals1 l=some xs∨vals0 l=some xs
def withArgsB (l:List AV) (k:List V1→Prop):Prop:=
 ∃b:Bool,match b with
  | true=>withArgs l k
  | false=>match vals0 l with
   | some xs=>k xs
   | none=>False
theorem withArgsB_iff {l:List AV}{k:List V1→Prop}(h:withArgsB l k):(∃xs,valsB l xs∧k xs)∨False:=by
 obtain⟨b,h⟩:=h
 cases b with
 | true=>
  replace h:withArgs l k:=h
  unfold withArgs at h
  split at h
  ·rename_i xs e;exact .inl ⟨xs,.inl e,h⟩
  ·exact h.elim
 | false=>
  simp only[]at h
  split at h
  ·rename_i xs e;exact .inl ⟨xs,.inr e,h⟩
  ·exact h.elim
def capV:FC→V1
 | .p i=>.c (.fb i)
 | .d x=>.c (.rp [x])
 | .h=>.c .un
theorem capV_rel {w:World}{Z:Zone}{g:Ghost}{h:Heap}{f:Nat}{cs:List FC}{ps:Array Value}(r:CloF w Z g f cs (.func (.func f) #[] ps)):ps.size=cs.length∧
  ∀(j:Nat) x v,(cs.map capV)[j]?=some x→ps[j]?=some v→RelV1 w Z g h x v:=by
 obtain⟨l,hv,hl,hb⟩:=r
 cases hv
 refine⟨by simpa using hl,fun j x v hx hv=>?_⟩
 rw[List.getElem?_map,Option.map_eq_some_iff]at hx
 obtain⟨c,hc,rfl⟩:=hx
 have q:=hb j c v hc (by simpa using hv)
 cases c with
 | p i=>exact q
 | d x=>
  obtain⟨b,u,h1,h2,h3,h4,h5⟩:=q
  refine⟨by simpa using h5,b,0,h1,fun _=>u,fun j c hc=>?_⟩
  cases j with
  | zero=>simp at hc;subst hc;exact⟨h2,h3,h4⟩
  | succ j=>simp at hc
 | h=>obtain⟨b,u,h1,h2,h3,h4⟩:=q;exact h4.elim
def outCallV (M:Mach) (f:AV) (args:List AV) (fresh:Nat) (h:Heap) (k:Out→Prop):Prop:=
 match f with
 | .v (.c (.fn n cap))=>withArgsB args fun xs=>M.lock fun _=>outCall M.P M.I n (xs++cap.map (fun i=>V1.c (.ptr i 0))) fresh h k
 | .v (.c (.bm n i))=>withArgsB args fun xs=>M.lock fun _=>outCall M.P M.I n (V1.c (.ptr i 0)::xs) fresh h k
 | .v (.c (.fz n cs))=>withArgsB args fun xs=>M.lock fun _=>outCall M.P M.I n (xs++cs.map capV) fresh h k
 | _=>False
def opsArgs (ti:Types) (s:Slots):List Operand→List TypeId→List AV
 | x::xs,t::ts=>opd ti s t x::opsArgs ti s xs ts
 | x::xs,[]=>opd ti s 0 x::opsArgs ti s xs []
 | [],_=>[]
def ptrTo (n:Nat):AV:=.v (.c (.ptr (.loc n) 0))
def pickAV (q:Bool) (a b:AV):AV:=
 match q with
 | true=>a
 | false=>b
def tiAll (ti:Types):List Field→Bool
 | []=>true
 | f::r=>match ti f.type with
  | some _=>tiAll ti r
  | none=>false
def fillP (ti:Types) (s:Slots) (fs:List Field) (cs:List CV):List (Nat×Operand)→(List CV→Prop)→Prop
 | [],k=>k cs
 | (i,x)::r,k=>match fs[i]? with
  | some fd=>withT ti fd.type fun j=>withV (opd ti s fd.type x) fun y=>req (Nat.beq y.cells.length j.size)<| req (Nat.ble (fd.offset+j.size) cs.length)<|
    fillP ti s fs (cs.take fd.offset++y.cells++cs.drop (fd.offset+j.size)) r k
  | none=>False
def fillA (ti:Types) (s:Slots) (e:TypeId) (sz:Nat) (cs:List CV):List (Nat×Operand)→(List CV→Prop)→Prop
 | [],k=>k cs
 | (i,x)::r,k=>withV (opd ti s e x) fun y=>req (Nat.beq y.cells.length sz)<| req (Nat.ble (i*sz+sz) cs.length)<|
   fillA ti s e sz (cs.take (i*sz)++y.cells++cs.drop (i*sz+sz)) r k
def outBuild (ti:Types) (s:Slots) (t:TypeId) (parts:List (Nat×Operand)) (k:Out→Prop):Prop:=
 withT ti t fun q=>match q.desc with
 | .struct fs=>req (tiAll ti fs.toList)<| fillP ti s fs.toList q.zc parts fun cs=>k ⟨.v (V1.ofCells true cs),[],[]⟩
 | .array _ e=>withT ti e fun j=>fillA ti s e j.size q.zc parts fun cs=>k ⟨.v (V1.ofCells true cs),[],[]⟩
 | _=>False
def rowsP (ti:Types) (s:Slots) (e:TypeId) (ag:Bool) (sz:Nat):Nat→List (Nat×Operand)→(List D→Prop)→Prop
 | _,[],k=>k []
 | n,(i,x)::r,k=>req (Nat.beq i n)<| match opd ti s e x with
  | .v y=>match y.norm with
   | .d d=>req (d.isAgg==ag)<| req (Nat.beq d.cells.length sz)<| rowsP ti s e ag sz (n+1) r fun ds=>k (d::ds)
   | _=>False
  | _=>False
def outBuildSlice (ti:Types) (s:Slots) (t:TypeId) (len:Nat) (parts:List (Nat×Operand)) (k:Out→Prop):Prop:=
 withT ti t fun q=>match q.desc with
 | .slice e=>withT ti e fun j=>req (Nat.ble (len*j.size) 16777216)<| req (Nat.beq parts.length len)<| req (Nat.blt 0 j.size)<| rowsP ti s e (rowD j.desc) j.size 0 parts fun ds=>
   k ⟨.v (.c (.tl (rowD j.desc) j.size ds)),[],[]⟩
 | _=>False
def cellsP (ti:Types) (s:Slots) (e:TypeId) (sz:Nat):Nat→List (Nat×Operand)→(List CV→Prop)→Prop
 | _,[],k=>k []
 | n,(i,x)::r,k=>req (Nat.beq i n)<| match opd ti s e x with
  | .v y=>req (Nat.beq y.cells.length sz)<| cellsP ti s e sz (n+1) r fun cs=>k (y.cells++cs)
  | _=>False
def outBuildSliceC (ti:Types) (s:Slots) (t:TypeId) (len:Nat) (parts:List (Nat×Operand)) (fresh:Nat) (k:Out→Prop):Prop:=
 withT ti t fun q=>match q.desc with
 | .slice e=>withT ti e fun j=>req (Nat.ble (len*j.size) 16777216)<| req (Nat.beq parts.length len)<| req (Nat.blt 0 j.size)<| cellsP ti s e j.size 0 parts fun cs=>
   k ⟨.v (.c (.sl (.loc fresh) len)),[],[(.loc fresh,.cells cs)]⟩
 | _=>False
def growNew (M:Mach) (ag:Bool) (sz:Nat) (e:TypeId) (bytes fresh:Nat) (isNil:Bool) (rows ys:List D) (k:Out→Prop):Prop:=
 (M.lock fun _=>rows.length+ys.length≤maxLen∧(rows.length+ys.length)*bytes≤140737488355328)∧∃out,rows++ys=out∧∃own:Bool,match own with
  | true=>(isNil=true∨ys≠[])∧k ⟨.v (.c (.lst (.loc fresh) ag sz out)),[],[(.loc fresh,.tok out.length sz e)]⟩
  | false=>k ⟨.v (.d (.list ag sz out)),[],[]⟩
def outAppend (M:Mach) (ti:Types) (t:TypeId) (x y:AV) (fresh:Nat) (h:Heap) (k:Out→Prop):Prop:=
 withT ti t fun q=>match q.desc with
 | .slice e=>withT ti e fun j=>req (Nat.blt 0 j.size)<| withL y fun ag sz ys=>req (rowD j.desc==ag)<| req (Nat.beq sz j.size)<|
  match x with
  | .v (.c (.nils ag' sz'))=>growNew M (rowD j.desc) j.size e j.bytes fresh true [] ys k
  | .v (.c (.tl ag' sz' rows))=>req (rowD j.desc==ag')<| req (Nat.beq sz' j.size)<| growNew M (rowD j.desc) j.size e j.bytes fresh false rows ys k
  | .v (.c (.lst (.loc i) ag' sz' rows))=>req (rowD j.desc==ag')<| req (Nat.beq sz' j.size)<| match h (.loc i)with
   | some (.tok n sz2 e2)=>req (Nat.beq sz2 j.size)<| req (Nat.beq e2 e)<| rows.length=n∧(M.lock fun _=>rows.length+ys.length≤maxLen∧(rows.length+ys.length)*j.bytes≤140737488355328)∧
     ∃out,rows++ys=out∧k ⟨.v (.c (.lst (.loc i) (rowD j.desc) j.size out)),[.loc i],[(.loc i,.tok out.length j.size e)]⟩
   | _=>False
  | _=>False
 | _=>False
def bndI (ti:Types) (s:Slots) (dflt:Int) (x:Option Operand) (k:Int→Prop):Prop:=
 match x with
 | none=>k dflt
 | some x=>withI (opd ti s 3 x) fun _ n=>k n
def outSl0 (ti:Types) (s:Slots) (ag:Bool) (sz n:Nat) (lo hi mx:Option Operand) (k:Out→Prop):Prop:=
 match lo,hi,mx with
 | none,some u,none=>withI (opd ti s 3 u) fun _ z=>req (Nat.ble n 4294967296) (z=0∧k ⟨.v (.d (.list ag sz [])),[],[]⟩)
 | _,_,_=>False
def valD:D→Option Value
 | .int k n=>some (.int k n)
 | .bool b=>some (.bool b)
 | .str s=>some (.string s)
 | _=>none
def valDs:List D→Option (List Value)
 | []=>some []
 | d::l=>match valD d with
  | some v=>match valDs l with
   | some vs=>some (v::vs)
   | none=>none
  | none=>none
def valOf:D→Option Value
 | .agg cs=>match valDs cs with
  | some vs=>some (.agg vs.toArray)
  | none=>none
 | d=>valD d
def notIface:TypeDesc→Bool
 | .interface _=>false
 | _=>true
def outIface (ti:Types) (t:TypeId) (x:AV) (k:Out→Prop):Prop:=
 withT ti t fun i=>req (notIface i.desc)<| match x with
 | .v (.d d)=>match valOf d with
  | some u=>k ⟨.v (.c (.kv (.iface t u))),[],[]⟩
  | none=>False
 | _=>False
def dOf1:Value→Option D
 | .int k n=>some (.int k n)
 | .bool b=>some (.bool b)
 | .string s=>some (.str s)
 | _=>none
def dOfs:List Value→Option (List D)
 | []=>some []
 | v::l=>match dOf1 v with
  | some d=>match dOfs l with
   | some ds=>some (d::ds)
   | none=>none
  | none=>none
def dOf:Value→Option D
 | .agg vs=>match dOfs vs.toList with
  | some ds=>some (.agg ds)
  | none=>none
 | v=>dOf1 v
def outSlice (M:Mach) (ti:Types) (s:Slots) (t:TypeId) (x:AV) (lo hi mx:Option Operand) (k:Out→Prop):Prop:=
 withT ti t fun q=>match q.desc with
 | .string=>match x with
  | .v (.d (.str b))=>bndI ti s 0 lo fun l=>bndI ti s (M.szI b) hi fun u=>(match mx with
   | none=>∃r,(0≤l∧l≤u∧u≤M.szI b)∧b.extract l.toNat u.toNat=r∧k ⟨.v (.d (.str r)),[],[]⟩
   | some _=>False)
  | _=>False
 | .slice e=>withT ti e fun j=>match x with
  | .v (.c (.sl _ n))=>outSl0 ti s (rowD j.desc) j.size n lo hi mx k
  | x=>withL x fun ag sz rows=>req (rowD j.desc==ag)<| req (Nat.beq sz j.size)<| bndI ti s 0 lo fun l=>bndI ti s (M.lenI rows) hi fun u=>
   (match mx with
    | none=>∃out,(0≤l∧l≤u∧u≤M.lenI rows)∧(rows.take u.toNat).drop l.toNat=out∧k ⟨.v (.d (.list ag sz out)),[],[]⟩
    | some m=>match hi with
     | none=>False
     | some _=>withI (opd ti s 3 m) fun _ v=>∃out,(0≤l∧l≤u∧u≤M.lenI rows∧v=u)∧(rows.take u.toNat).drop l.toNat=out∧k ⟨.v (.c (.tl ag sz out)),[],[]⟩)
 | _=>False
def outIndexV (ti:Types) (t:TypeId) (x i:AV) (k:Out→Prop):Prop:=
 withI i fun _ n=>withT ti t fun q=>match q.desc with
 | .string=>match x with
  | .v (.d (.str b))=>∃z:Int,(0≤n∧(b[n.toNat]?).map (fun u=>(u.toNat:Int))=some z)∧k ⟨.v (.d (.int .u8 z)),[],[]⟩
  | _=>False
 | .array len e=>withT ti e fun j=>match x with
  | .v (.d (.agg cs))=>req (Nat.beq cs.length (len*j.size))<| ∃r,0≤n∧(rowsOf (rowD j.desc) j.size len cs)[n.toNat]?=some r∧k ⟨.v (.d r),[],[]⟩
  | .v (.agg cs)=>req (Nat.beq cs.length (len*j.size))<| ∃p:Nat,(n=(p:Int)∧p<len)∧k ⟨.v (V1.ofCells (rowD j.desc) ((cs.drop (p*j.size)).take j.size)),[],[]⟩
  | _=>False
 | _=>False
def isAggV:V1→Bool
 | .d x=>x.isAgg
 | .agg _=>true
 | _=>false
def outFieldV (ti:Types) (t:TypeId) (x:AV) (f:Nat) (k:Out→Prop):Prop:=
 withT ti t fun i=>match i.desc with
 | .struct fs=>match fs[f]? with
  | some fd=>withT ti fd.type fun j=>withV x fun y=>req (isAggV y)<| req (Nat.ble (fd.offset+j.size) y.cells.length)<| k ⟨.v (V1.ofCells (rowD j.desc) ((y.cells.drop fd.offset).take j.size)),[],[]⟩
  | none=>False
 | _=>False
def plainKey:TypeDesc→Bool
 | .int _=>true
 | .string=>true
 | _=>false
def zeroOK (x:TI):Bool:=
 match x.zero with
 | .agg _=>rowD x.desc
 | .tuple _=>false
 | _=>notB (rowD x.desc)
def outLookup (ti:Types) (t:TypeId) (x key:AV) (ok:Bool) (k:Out→Prop):Prop:=
 withT ti t fun q=>match q.desc with
 | .map kt et=>withT ti kt fun kk=>withT ti et fun j=>req (plainKey kk.desc)<| req (zeroOK j)<| match x with
  | .v (.c .nilm)=>match ok with
   | true=>k ⟨.t [V1.ofCells (rowD j.desc) j.zc,.d (.bool false)],[],[]⟩
   | false=>k ⟨.v (V1.ofCells (rowD j.desc) j.zc),[],[]⟩
  | _=>False
 | _=>False
def nthV:List V1→Nat→Option V1
 | [],_=>none
 | x::r,n=>match n with
  | 0=>some x
  | m+1=>nthV r m
def outExtract (x:AV) (i:Nat) (k:Out→Prop):Prop:=
 match x with
 | .t xs=>match nthV xs i with
  | some y=>k ⟨.v y,[],[]⟩
  | none=>False
 | _=>False
def outConvert (ti:Types) (src dst:TypeId) (x:AV) (k:Out→Prop):Prop:=
 withT ti src fun a=>withT ti dst fun b=>match a.desc,b.desc with
 | .int _,.int q=>withI x fun _ n=>∃z,q.wrap n=z∧k ⟨.v (.d (.int q z)),[],[]⟩
 | _,_=>False
def outAssert (ti:Types) (a:TypeId) (ok:Bool) (x:AV) (k:Out→Prop):Prop:=
 withT ti a fun j=>req (notIface j.desc)<| req ok<| req (zeroOK j)<| match x with
 | .v (.c (.kv v))=>(match v with
  | .iface t u=>(match Nat.beq t a with
   | true=>(match dOf u with
    | some d=>k ⟨.t [.d d,.d (.bool true)],[],[]⟩
    | none=>False)
   | false=>k ⟨.t [V1.ofCells (rowD j.desc) j.zc,.d (.bool false)],[],[]⟩)
  | .nilIface=>k ⟨.t [V1.ofCells (rowD j.desc) j.zc,.d (.bool false)],[],[]⟩
  | _=>False)
 | _=>False
def opOut0 (M:Mach) (ti:Types) (o:Oper) (fresh:Nat) (s:Slots) (h:Heap) (k:Out→Prop):Prop:=
 match o.op with
 | .move x | .assign x=>k ⟨opd ti s o.type x,[],[]⟩
 | .pick c a b=>withB (opd ti s 0 c) fun q=>k ⟨pickAV q (opd ti s o.type a) (opd ti s o.type b),[],[]⟩
 | .alloc t=>withT ti t fun i=>k ⟨ptrTo fresh,[],[(.loc fresh,.cells i.zc)]⟩
 | .box t x=>withV (opd ti s t x) fun y=>k ⟨ptrTo fresh,[],[(.loc fresh,.cells y.cells)]⟩
 | .load t x=>outLoad ti t (opd ti s 0 x) h k
 | .store t x y=>outStore ti t (opd ti s 0 x) (opd ti s t y) h k
 | .fieldAddr t x f=>outField ti t (opd ti s 0 x) f k
 | .indexAddr t x i=>outIndex ti t (opd ti s t x) (opd ti s 3 i) k
 | .nilCheck x=>match opd ti s 0 x with
  | .v (.c (.ptr i q))=>k ⟨.v (.c (.ptr i q)),[],[]⟩
  | _=>False
 | .binOp op t x y _=>outBin M ti op t (opd ti s t x) (opd ti s t y) k
 | .unOp op _ x=>outUn op (opd ti s o.type x) k
 | .makeFunc fn first captured=>match fn,first.toList with
  | .func f,[]=>match caps (captured.toList.map (opd ti s 0))with
   | some l=>k ⟨.v (.c (.fn f l)),[],[]⟩
   | none=>False
  | .func f,[x]=>(match captured.toList,opd ti s 0 x with
   | [],.v (.c (.ptr i 0))=>k ⟨.v (.c (.bm f i)),[],[]⟩
   | _,_=>False)
  | _,_=>False
 | .build t parts=>outBuild ti s t parts.toList k
 | .buildSlice t len parts=>∃c:Bool,match c with
  | true=>outBuildSlice ti s t len parts.toList k
  | false=>outBuildSliceC ti s t len parts.toList fresh k
 | .lookup t x i ok=>outLookup ti t (opd ti s t x) (opd ti s 0 i) ok k
 | .slice t x lo hi mx=>outSlice M ti s t (opd ti s t x) lo hi mx k
 | .index t x i=>outIndexV ti t (opd ti s t x) (opd ti s 3 i) k
 | .field t x f=>outFieldV ti t (opd ti s t x) f k
 | .extract x i=>outExtract (opd ti s 0 x) i k
 | .convert a b x=>outConvert ti a b (opd ti s a x) k
 | .makeInterface t x=>outIface ti t (opd ti s t x) k
 | .typeAssert x _ a ok=>outAssert ti a ok (opd ti s 0 x) k
 | .call c=>match c.callee with
  | .builtin .len=>match c.args.toList,c.argTypes.toList with
   | [x],[t]=>outLen M ti t (opd ti s t x) k
   | _,_=>False
  | .builtin .append=>match c.args.toList,c.argTypes.toList with
   | [x,y],[t,t']=>req (Nat.beq t t')<| outAppend M ti t (opd ti s t x) (opd ti s t y) fresh h k
   | _,_=>False
  | .value f=>outCallV M (opd ti s 0 f) (opsArgs ti s c.args.toList c.argTypes.toList) fresh h k
  | _=>False
 | _=>False
end Go.AM
namespace Go.AM
open Go Go.RowKit
section
variable {C:Cx}{F:Nat→Prop}{s:Slots}{h:Heap}{g:Ghost}{a:Act}{w:World}
theorem RelS.put {dst:Option Tmp}{v:AV}{u:Value}(R:RelS C F s h g a w) (hd:∀d,dst=some d→d<C.nt)
  (hr:RelAV w (zor (zone g h) C.X) g h v u):RelS C F (updS s dst v) h g (a.put dst u) w:=by
 cases dst with
 | none=>exact R
 | some d=>
  have hlt:=hd d rfl
  have hdf:DefOK w (zor (zone g h) C.X) g C.M.cl (updS s (some d) v DT) a.defers C.D:=by
   cases hc:C.M.cl with
   | false=>exact R.marks hc
   | true=>
    have hne:¬DT=d:=fun e=>absurd (Nat.lt_of_lt_of_le hlt (C.hcl hc).1) (by rw[e];exact Nat.lt_irrefl _)
    simp only[updS,if_neg hne]
    have:=R.defers
    rw[hc]at this
    exact this
  refine {R with size:=by simpa [Act.put] using R.size,defers:=hdf,slots:=fun t=>?_}
  simp only[updS,Act.put]
  by_cases ht:t=d
  ·subst ht
   have:(a.tmps.setIfInBounds t u).getD t undef=u:=by simp[R.size,hlt]
   rw[this,if_pos rfl]
   exact hr
  ·have:(a.tmps.setIfInBounds d u).getD t undef=a.tmps.getD t undef:=by
    simp[Ne.symm ht]
   rw[this,if_neg ht]
   exact R.slots t
theorem RelS.free_mono {F':Nat→Prop}(R:RelS C F s h g a w) (hF:∀n,F' n→F n):RelS C F' s h g a w:=
 {R with free:=fun n hn=>R.free n (hF n hn)}
theorem zone_lt {X:Zone}(R:RelH w X g h) {b o:Nat}(hz:zone g h b o):b<w.heap.size:=by
 obtain⟨i,ob,hi,h1⟩:=hz
 exact (R.objs i ob hi).lt h1.obk
theorem RelS.alloc (R:RelS C F s h g a w) {n:Nat}(hf:F n) (c:Array Value) (e:TypeId) (cs:List CV) (hs:c.size=cs.length)
  (hr:∀(j:Nat) x u,cs[j]?=some x→c[j]?=some u→RelC w (zor (zone g h) C.X) g h x u):
  RelS C (fun k=>F k∧k≠n) s (updO h (.loc n) (.cells cs)) (updG g (.loc n) (.pointer (some ⟨w.heap.size,0,none⟩))) a (w.alloc (.cells c e)):=by
 have hX:∀b o,C.X b o→b<w.heap.size:=fun b o hx=>Nat.lt_of_lt_of_le (R.xs b o hx) R.frame.size
 obtain⟨hgn,hhn⟩:=R.free n hf
 have hne:∀{i:Id} {v:Value},g i=v→v≠undef→i≠ .loc n:=by
  rintro i v hv hu rfl
  exact hu (hv▸hgn)
 have E:Evo w (zor (zone g h) C.X) g h (w.alloc (.cells c e)) (zor (zone (updG g (.loc n) (.pointer (some ⟨w.heap.size,0,none⟩))) (updO h (.loc n) (.cells cs))) C.X)
   (updG g (.loc n) (.pointer (some ⟨w.heap.size,0,none⟩))) (updO h (.loc n) (.cells cs)):=by
  have now:∀{i:Id},isTu (g i)→i≠ .loc n:=by
   rintro i hi rfl
   rw[hgn]at hi
   exact isTu_undef hi
  refine⟨fun b o u hu hz=>?_,fun i b hb=>?_,fun i q hq=>?_,fun i hi=>?_,fun i k sz e' hi hk=>?_,fun i hi=>by simpa [updG,now hi] using hi,
   fun i hi hk=>⟨by simpa [updO,now hi] using hk,by simp[updG,now hi]⟩⟩
  ·have hlt:=World.block_lt_of_cell? w ⟨b,o,none⟩ hu
   refine⟨(World.cell?_alloc_lt w _ ⟨b,o,none⟩ hlt).trans hu,?_⟩
   rintro (⟨i,ob,hi,h1⟩ | hx)
   ·by_cases hin:i= .loc n
    ·subst hin
     simp only[updO,if_true,Option.some.injEq]at hi
     subst hi
     have:=Blk.ptr (q:=w.heap.size) (o:=0) (by simpa [updG,zone1] using h1)
     simp at hlt
     omega
    ·simp only[updO,updG,if_neg hin]at hi h1
     exact hz (.inl ⟨i,ob,hi,h1⟩)
   ·exact hz (.inr hx)
  ·exact if_neg (hne hb (by simp[undef]))
  ·exact if_neg (hne hq (by simp[undef]))
  ·have:i≠ .loc n:=by rintro rfl;rw[hgn]at hi;exact hi
   simpa [updG,this] using hi
  ·have:i≠ .loc n:=by rintro rfl;rw[hgn]at hi;exact hi
   refine⟨k,Nat.le_refl _,by simpa [updO,this] using hk,fun _=>by simp[updG,this]⟩
 refine R.step (F':=fun k=>F k∧k≠n) (fun i=>i= .loc n) E ?_ ?_ ?_ ?_ ?_ ?_ ?_ ?_
 ·exact⟨rfl,rfl,rfl,by simp,fun b hb _=>Below.heap_alloc w _ b hb,fun b o u hu _=>(World.cell?_alloc_lt w _ ⟨b,o,none⟩ (World.block_lt_of_cell? w ⟨b,o,none⟩ hu)).trans hu⟩
 ·intro i hi
  simp[updO,updG,hi]
 ·intro i o b _ hi hb
  exact Below.heap_alloc w _ b ((R.heap.objs i o hi).lt hb)
 ·rintro i o rfl ho
  simp[updO]at ho
  subst ho
  exact⟨w.heap.size,c,e,by simp[updG],heap_alloc_new w _,hs,fun j x u hx hu=>E.relC (hr j x u hx hu)⟩
 ·rintro i o b p rfl ho hb
  simp[updO]at ho
  subst ho
  have:=Blk.ptr (q:=w.heap.size) (o:=0) (by simpa [updG,zone1] using hb)
  exact .inr (by omega)
 ·rintro i j _ _ _ rfl rfl _ _ _ _
  rfl
 ·intro j hj
  exact absurd hj (by simp)
 ·rintro k ⟨hk,hkn⟩
  have:=R.free k hk
  simp[updG,updO,hkn,this]
theorem RelS.store (R:RelS C F s h g a w) {id:Id}{cs cs':List CV}(hid:h id=some (.cells cs)) {b:Nat}{c c':Array Value}{e:TypeId}
  (hg:g id= .pointer (some ⟨b,0,none⟩)) (hb:w.heap[b]?=some (.cells c e (0,0))) (hs:c'.size=cs'.length)
  (hr:∀(j:Nat) x u,cs'[j]?=some x→c'[j]?=some u→RelC w (zor (zone g h) C.X) g h x u):
  RelS C F s (updO h id (.cells cs')) g a (w.setRow b c'):=by
 have hzb:∀o,zone g h b o:=fun o=>⟨id,_,hid,by simp[zone1,hg,Blk,blk]⟩
 have hz1:∀i ob b' o,updO h id (.cells cs') i=some ob→zone1 (g i) ob b' o→zone g h b' o:=by
  intro i ob b' o hi h1
  by_cases hin:i=id
  ·subst hin
   simp[updO]at hi
   subst hi
   exact⟨i,_,hid,h1⟩
  ·simp only[updO,if_neg hin]at hi
   exact⟨i,ob,hi,h1⟩
 have hcell:∀b' o u,w.cell? ⟨b',o,none⟩=some u→¬zone g h b' o→(w.setRow b c').cell? ⟨b',o,none⟩=some u:=by
  intro b' o u hu hz
  have hne:b'≠b:=by rintro rfl;exact hz (hzb o)
  exact (cell_setRow_other w b c' ⟨b',o,none⟩ hne).trans hu
 have E:Evo w (zor (zone g h) C.X) g h (w.setRow b c') (zor (zone g (updO h id (.cells cs'))) C.X) g (updO h id (.cells cs')):=by
  refine⟨fun b' o u hu hz=>⟨hcell b' o u hu (fun hz'=>hz (.inl hz')),?_⟩,fun _ _ _=>rfl,fun _ _ _=>rfl,fun _ hi=>hi,fun i k sz e' _ hk=>?_,fun _ hi=>hi,fun i hi hk=>?_⟩
  ·rintro (⟨i,ob,hi,h1⟩ | hx)
   ·exact hz (.inl (hz1 i ob b' o hi h1))
   ·exact hz (.inr hx)
  ·have hin:i≠id:=by rintro rfl;simp[updO]at hk
   exact⟨k,Nat.le_refl _,by simpa [updO,hin] using hk,fun _=>rfl⟩
  ·have hin:i≠id:=by rintro rfl;simp[updO,isLive]at hk
   exact⟨by simpa [updO,hin] using hk,rfl⟩
 refine R.step (fun i=>i=id) E ?_ ?_ ?_ ?_ ?_ ?_ ?_ ?_
 ·exact⟨rfl,rfl,rfl,by simp,fun b' _ hz=>setRow_other w b b' c' (fun e=>hz 0 (e▸hzb 0)),hcell⟩
 ·intro i hi
  simp[updO,hi]
 ·intro i o b' hi ho hb'
  refine setRow_other w b b' c' ?_
  rintro rfl
  exact hi (R.heap.sep i id o _ b' ho hid hb' (by simp[Obk,hg,Blk,blk]))
 ·rintro i o rfl ho
  simp[updO]at ho
  subst ho
  exact⟨b,c',e,hg,setRow_heap w b c c' e _ hb,hs,fun j x u hx hu=>E.relC (hr j x u hx hu)⟩
 ·rintro i o b' p rfl ho hb'
  simp[updO]at ho
  subst ho
  exact .inl ⟨_,_,rfl,hid,hb'⟩
 ·rintro i j _ _ _ rfl rfl _ _ _ _
  rfl
 ·rintro j rfl
  exact .refl _
 ·intro k hk
  obtain⟨h1,h2⟩:=R.free k hk
  have hin:Id.loc k≠id:=by rintro rfl;rw[h2]at hid;simp at hid
  exact⟨h1,by simp[updO,hin,h2]⟩
end
def OKop (C:Cx) (o:Oper) (fresh:Nat) (s:Slots) (h:Heap) (out:Out):Prop:=
 ∀(F:Nat→Prop) (σs:Slots) (σh:Heap) a w Q,Rel C F σs σh a w→(∀t,Operand.tmp t∈o.op.operands.toList→σs t=s t)→(∀i∈out.rd,σh i=h i)→
  (∀k,k<32→F (fresh+k))→(∀d,o.dst=some d→d<C.nt)→
  o.wp C.P a w (fun a' w'=>Rel C (fun n=>F n∧¬(fresh≤n∧n<fresh+32)) (updS σs o.dst out.val) (updW σh out.wr) a' w') Q
theorem okop_value {C:Cx}{o:Oper}{fresh:Nat}{s:Slots}{h:Heap}{v:AV}{rd:List Id}
  (hr:∀F σs σh g a w,RelS C F σs σh g a w→(∀t,Operand.tmp t∈o.op.operands.toList→σs t=s t)→(∀i∈rd,σh i=h i)→
   ∃u,(execOp a.eval o).run C.P w= .ok (.value u) w∧RelAV w (zor (zone g σh) C.X) g σh v u):OKop C o fresh s h ⟨v,rd,[]⟩:=by
 rintro F σs σh a w Q ⟨g,R⟩ ho hrd hF hd
 obtain⟨u,hu,hv⟩:=hr F σs σh g a w R ho hrd
 unfold Oper.wp
 rw[hu]
 exact⟨g,(R.put hd hv).free_mono (fun n hn=>hn.1)⟩
theorem okop_alloc {C:Cx}{o:Oper}{fresh:Nat}{s:Slots}{h:Heap}{cs:List CV}
  (hr:∀F σs σh g a w,RelS C F σs σh g a w→(∀t,Operand.tmp t∈o.op.operands.toList→σs t=s t)→
   ∃c e,(execOp a.eval o).run C.P w= .ok (.value (.pointer (some ⟨w.heap.size,0,none⟩))) (w.alloc (.cells c e))∧c.size=cs.length∧
    ∀(j:Nat) x u,cs[j]?=some x→c[j]?=some u→RelC w (zor (zone g σh) C.X) g σh x u):OKop C o fresh s h ⟨ptrTo fresh,[],[(.loc fresh,.cells cs)]⟩:=by
 rintro F σs σh a w Q ⟨g,R⟩ ho hrd hF hd
 obtain⟨c,e,hu,hs,hc⟩:=hr F σs σh g a w R ho
 unfold Oper.wp
 rw[hu]
 have R':=R.alloc (n:=fresh) (hF 0 (by omega)) c e cs hs hc
 refine⟨_,(R'.put hd (v:=ptrTo fresh) ⟨⟨w.heap.size,by simp[updG]⟩,by simp[updG,ptrAt]⟩).free_mono (fun n hn=>⟨hn.1,fun e=>hn.2 (by omega)⟩)⟩
theorem constV_rel {w:World}{Z:Zone}{g:Ghost}{h:Heap}(ti:Types) (t:TypeId) (v:Value):RelAV w Z g h (constA (constV ti t v)) v:=by
  unfold constV
  split<;>first
    | exact RelD.int _ _
    | exact RelD.bool _
    | exact RelD.str _
    | exact rfl
    | (split
       · split
         · split<;>exact rfl
         · exact rfl
       · exact rfl)
    | exact⟨rfl,rfl⟩
    | exact trivial
theorem zc1_ok {w:World}{Z:Zone}{g:Ghost}{h:Heap}{c x:CV}{v:Value}(hz:zc1 c v=some x):RelC w Z g h x v:=by
 unfold zc1 at hz
 split at hz
 ·cases hz;exact rfl
 ·cases hz;exact⟨RelD.int _ _,rfl⟩
 ·cases hz;exact⟨RelD.bool _,rfl⟩
 ·cases hz;exact⟨RelD.str _,rfl⟩
 ·cases hz;exact rfl
 ·cases hz
theorem zcs_ok {w:World}{Z:Zone}{g:Ghost}{h:Heap}:∀{cs xs:List CV}{vs:List Value},zcs cs vs=some xs→vs.length=xs.length∧∀(j:Nat) x u,xs[j]?=some x→vs[j]?=some u→RelC w Z g h x u
 | [],xs,[],hz=>by
  cases hz
  exact⟨rfl,fun j x u hx _=>by simp at hx⟩
 | c::cs,xs,v::vs,hz=>by
  unfold zcs at hz
  split at hz
  ·rename_i x0 h0
   split at hz
   ·rename_i xs0 h1
    cases hz
    obtain⟨k1,k2⟩:=zcs_ok (w:=w) (Z:=Z) (g:=g) (h:=h) h1
    refine⟨by simp[k1],fun j x u hx hu=>?_⟩
    match j with
    | 0=>simp at hx hu;subst hx;subst hu;exact zc1_ok h0
    | j+1=>exact k2 j x u (by simpa using hx) (by simpa using hu)
   ·cases hz
  ·cases hz
 | [],_,_::_,hz=>by cases hz
 | _::_,_,[],hz=>by cases hz
theorem constO_rel {w:World}{Z:Zone}{g:Ghost}{h:Heap}(ti:Types) (t:TypeId) (v:Value):RelAV w Z g h (constO ti t v) v:=by
 unfold constO
 split
 ·split
  ·split
   ·rename_i cs hcs
    obtain⟨k1,k2⟩:=zcs_ok (w:=w) (Z:=Z) (g:=g) (h:=h) hcs
    exact (RelV1.ofCells (by simpa using k1) (fun j c u hc hu=>k2 j c u hc (by simpa using hu))).1 rfl
   ·trivial
  ·trivial
 ·exact constV_rel ti t v
theorem opd_rel {C:Cx}{F:Nat→Prop}{s σs:Slots}{σh:Heap}{g:Ghost}{a:Act}{w:World}(ti:Types) (t:TypeId) (x:Operand)
  (R:RelS C F σs σh g a w) (hx:∀k,x= .tmp k→σs k=s k):RelAV w (zor (zone g σh) C.X) g σh (opd ti s t x) (a.eval x):=by
 cases x with
 | tmp k=>
  have:=R.slots k
  rw[hx k rfl]at this
  exact this
 | const v=>exact constO_rel ti t v
 | func f=>exact⟨rfl,by simp⟩
 | global q=>trivial
section
variable {C:Cx}{ti:Types}{o:Oper}{fresh:Nat}{s:Slots}{h:Heap}{k:Out→Prop}
theorem run_value {P:Program}{w w':World}{q:Sem Value}{v:Value}(h:q.run P w= .ok v w'):
  (do pure (Next.value (←q)):Sem Next).run P w= .ok (.value v) w':=by
 simp[h]
theorem withT_iff {t:TypeId}{k:TI→Prop}:withT ti t k↔∃i,ti t=some i∧k i:=by
 unfold withT
 split<;>simp_all
theorem withV_iff {x:AV}{k:V1→Prop}:withV x k↔∃y,x= .v y∧k y:=by
 unfold withV
 split<;>simp_all
theorem withB_iff {x:AV}{k:Bool→Prop}:withB x k↔∃y,x= .v (.d (.bool y))∧k y:=by
 unfold withB
 split<;>simp_all
theorem withI_iff {x:AV}{k:IntKind→Int→Prop}:withI x k↔∃q n,x= .v (.d (.int q n))∧k q n:=by
 unfold withI
 split
 ·rename_i q n
  constructor
  ·exact fun h=>⟨q,n,rfl,h⟩
  ·rintro⟨q',n',he,hk⟩
   cases he
   exact hk
 ·rename_i hh
  constructor
  ·exact fun h=>h.elim
  ·rintro⟨q,n,rfl,_⟩;exact hh q n rfl
theorem withL_iff {x:AV}{k:Bool→Nat→List D→Prop}(hk:withL x k):
  ∃ag sz rows,(∀{w:World} {Z:Zone} {g:Ghost} {h:Heap} {v:Value},RelAV w Z g h x v→RelD w Z (.list ag sz rows) v)∧k ag sz rows:=by
 unfold withL at hk
 split at hk
 ·exact⟨_,_,_,fun r=>r,hk⟩
 ·exact⟨_,_,_,fun r=>r.1,hk⟩
 ·exact⟨_,_,_,fun r=>by rw[show _=_ from r];exact relD_nil _ _,hk⟩
 ·exact⟨_,_,_,fun r=>r.1,hk⟩
 ·exact hk.elim
theorem relB {w:World}{Z:Zone}{g:Ghost}{h:Heap}{b:Bool}{v:Value}(r:RelAV w Z g h (.v (.d (.bool b))) v):v= .bool b:=by
 cases (show RelD w Z (.bool b) v from r);rfl
theorem relI {w:World}{Z:Zone}{g:Ghost}{h:Heap}{q:IntKind}{n:Int}{v:Value}(r:RelAV w Z g h (.v (.d (.int q n))) v):v= .int q n:=by
 cases (show RelD w Z (.int q n) v from r);rfl
theorem relSt {w:World}{Z:Zone}{g:Ghost}{h:Heap}{b:ByteArray}{v:Value}(r:RelAV w Z g h (.v (.d (.str b))) v):v= .string b:=by
 cases (show RelD w Z (.str b) v from r);rfl
theorem ok_move (x:Operand) (ho:o.op= .move x∨o.op= .assign x):OKop C o fresh s h ⟨opd ti s o.type x,[],[]⟩:=by
 refine okop_value fun F σs σh g a w R hs _=>⟨a.eval x,?_,opd_rel ti o.type x R (fun t ht=>hs t ?_)⟩
 ·rcases ho with ho | ho<;>simp[execOp,ho]
 ·subst ht
  rcases ho with ho | ho<;>simp[ho,Op.operands]
theorem ok_pick (c x y:Operand) (ho:o.op= .pick c x y) {q:Bool}(hq:opd ti s 0 c= .v (.d (.bool q))):
  OKop C o fresh s h ⟨pickAV q (opd ti s o.type x) (opd ti s o.type y),[],[]⟩:=by
 refine okop_value fun F σs σh g a w R hs _=>?_
 have hc:=opd_rel ti 0 c R (s:=s) (fun t ht=>hs t (by subst ht;simp[ho,Op.operands]))
 rw[hq]at hc
 have hc:=relB hc
 refine⟨if q then a.eval x else a.eval y,?_,?_⟩
 ·simp[execOp,ho,hc,asBool]
 ·cases q
  ·exact opd_rel ti o.type y R (fun t ht=>hs t (by subst ht;simp[ho,Op.operands]))
  ·exact opd_rel ti o.type x R (fun t ht=>hs t (by subst ht;simp[ho,Op.operands]))
theorem zrel_rel {w:World}{Z:Zone}{g:Ghost}{h:Heap}{c:CV}{u:Value}(q:ZRel c u):RelC w Z g h c u:=by
 revert q
 unfold ZRel
 split<;>intro hz
 ·rw[hz.1,hz.2];exact⟨.int _ _,rfl⟩
 ·rw[hz];exact⟨.bool _,rfl⟩
 ·rw[hz];exact⟨.str _,rfl⟩
 ·exact rfl
 ·exact rfl
 ·exact rfl
 ·exact rfl
 ·exact hz
 ·exact hz.elim
theorem ok_alloc (hti:TIok C.P ti) (t:TypeId) (ho:o.op= .alloc t) {i:TI}(hi:ti t=some i):OKop C o fresh s h ⟨ptrTo fresh,[],[(.loc fresh,.cells i.zc)]⟩:=by
 refine okop_alloc fun F σs σh g a w R hs=>?_
 obtain⟨hu,ii,h1,h2,h3,h4,h5,h6,h7⟩:=hti t i hi
 refine⟨i.zero.cells,t,?_,by rw[h5,h6],fun j c u hc hu=>?_⟩
 ·simp[execOp,ho,Instr.alloc,zeroValue,typeInfo,h1,h4,newVar,newRow]
 ·have:=h7 j c u hc hu
  revert this
  unfold ZRel
  split<;>intro hz
  ·rw[hz.1,hz.2];exact⟨.int _ _,rfl⟩
  ·rw[hz];exact⟨.bool _,rfl⟩
  ·rw[hz];exact⟨.str _,rfl⟩
  ·exact rfl
  ·exact rfl
  ·exact rfl
  ·exact rfl
  ·exact hz
  ·exact hz.elim
theorem ok_box (t:TypeId) (x:Operand) (ho:o.op= .box t x) {y:V1}(hy:opd ti s t x= .v y):OKop C o fresh s h ⟨ptrTo fresh,[],[(.loc fresh,.cells y.cells)]⟩:=by
 refine okop_alloc fun F σs σh g a w R hs=>?_
 have hx:=opd_rel ti t x R (s:=s) (fun k hk=>hs k (by subst hk;simp[ho,Op.operands]))
 rw[hy]at hx
 obtain⟨h1,h2⟩:=RelV1.cells hx
 exact⟨(a.eval x).cells,t,by simp[execOp,ho,Instr.box,newVar,newRow],h1,h2⟩
end
end Go.AM
namespace Go.AM
open Go Go.RowKit
theorem mkTu (v:Value) (l:List Nat) (P:Nat→Prop) (hP:∀b,P b→b∈l):∃gv,isTu gv∧gval gv=v∧∀b,Blk gv b↔P b:=by
 classical
 let l':=l.filter (fun b=>decide (P b))
 refine⟨.tuple (v::l'.map (fun b:Nat=>Value.int .i64 (b:Int))).toArray,⟨_,v,rfl,by simp⟩,by simp[gval],fun b=>⟨?_,fun hb=>?_⟩⟩
 ·rintro (h | ⟨vs,h,k,hk⟩)
  ·simp[blk]at h
  ·cases h
   simp only[List.getElem?_toArray,List.getElem?_cons_succ,List.getElem?_map,Option.map_eq_some_iff]at hk
   obtain⟨x,hx,he⟩:=hk
   have hm:=List.mem_of_getElem? hx
   simp[l']at hm
   have:x=b:=by simp at he;omega
   subst this
   exact hm.2
 ·have hm:b∈l':=by simp[l',hP b hb,hb]
  obtain⟨k,hk⟩:=List.mem_iff_getElem?.1 hm
  exact .inr ⟨_,rfl,k,by simp[hk]⟩
theorem Blk.fin (gv:Value):∃l:List Nat,∀b,Blk gv b→b∈l:=by
 cases hg:gv with
 | tuple vs=>
  refine⟨vs.toList.filterMap (fun v=>match v with | .int _ n=>some n.toNat | _=>none),fun b hb=>?_⟩
  rcases hb with h | ⟨vs',h,k,hk⟩
  ·simp[blk]at h
  ·cases h
   refine List.mem_filterMap.2 ⟨.int .i64 (b:Int),?_,by simp⟩
   have:=Array.mem_of_getElem? hk
   simpa using this
 | _=>
  refine⟨(blk gv).toList,fun b hb=>?_⟩
  rcases hb with h | ⟨vs',h,_⟩
  ·rw[hg];simpa using h
  ·cases h
theorem Blk.finAll {g:Ghost}(l:List Id):∃m:List Nat,∀i∈l,∀b,Blk (g i) b→b∈m:=by
 induction l with
 | nil=>exact⟨[],by simp⟩
 | cons i l ih=>
  obtain⟨m,hm⟩:=ih
  obtain⟨m',hm'⟩:=Blk.fin (g i)
  refine⟨m'++m,fun j hj b hb=>?_⟩
  rcases List.mem_cons.1 hj with rfl | hj
  ·exact List.mem_append.2 (.inl (hm' b hb))
  ·exact List.mem_append.2 (.inr (hm j hj b hb))
theorem RelO.oneCell {w:World}{x:D}{v:Value}{S:Nat→Prop}(h:RelO w x v S):v.oneCell'=true:=by
 cases h with
 | con k ag sz rows x v xs U T S hcon hsz hfit hx=>exact hx.oneCell
 | _=>rfl
theorem RelO.isAgg {w:World}{x:D}{v:Value}{S:Nat→Prop}(h:RelO w x v S):x.isAgg=false:=by
 cases h with
 | con k ag sz rows x v xs U T S hcon=>
  cases x<;>first | rfl | simp[D.con]at hcon
 | _=>rfl
def isCon:D→Bool
 | .list ..=>true
 | .box ..=>true
 | .map ..=>true
 | _=>false
theorem isCon_iff {x:D}:isCon x=true↔∃k ag sz rows,x.con=some (k,ag,sz,rows):=by
 cases x<;>simp[isCon,D.con]
theorem isCon_false {x:D}(h:isCon x=false):x.con=none:=by
 cases x<;>first | rfl | simp[isCon]at h
theorem conD_iff {k:Kd}{ag:Bool}{sz:Nat}{rows:List D}{x:D}:conD k ag sz rows=some x↔x.con=some (k,ag,sz,rows):=by
 constructor
 ·intro h
  cases k with
  | row=>simp[conD]at h;subst h;rfl
  | flat=>simp[conD]at h
  | fmap _=>simp[conD]at h
  | map=>
   cases ag with
   | true=>simp[conD]at h;subst h;rfl
   | false=>simp[conD]at h
  | box=>
   cases ag with
   | false=>simp[conD]at h
   | true=>
    simp only[conD]at h
    split at h
    ·split at h
     ·rename_i hb
      cases h
      simp only[D.con,Nat.eq_of_beq_eq_true hb]
     ·cases h
    ·cases h
 ·intro h
  cases x<;>simp[D.con]at h
  all_goals
   obtain⟨rfl,rfl,rfl,rfl⟩:=h
   simp[conD]
theorem con_deep {x:D}{k:Kd}{ag:Bool}{sz:Nat}{rows:List D}(h:x.con=some (k,ag,sz,rows)):k.froz=false:=by
 cases x<;>simp[D.con]at h
 all_goals (obtain⟨rfl,_⟩:=h;rfl)
theorem tree_iff {w:World}{Z:Zone}{g:Ghost}{h:Heap}{k:Kd}{ag:Bool}{sz:Nat}{rows:List D}{gv:Value}{x:D}(hc:conD k ag sz rows=some x):
  RelObj w Z g h (.tree k ag sz rows none) gv↔isTu gv∧RelO w x (gval gv) (Blk gv):=by
 rw[conD_iff]at hc
 have kf:=con_deep hc
 constructor
 ·rintro⟨ht,h0,hf,xs,hx,_,U,T,h1,h2,h3,h4,h5⟩
  exact⟨ht,.con k ag sz rows x _ xs U T _ hc h0 hf hx (fun i r j c hr hj=>(h1 i r j c (fun _ _ h=>by cases h) hr hj).1) (fun i r j c hr hj=>(RelK.own kf).1 (h1 i r j c (fun _ _ h=>by cases h) hr hj).2)
   (fun i j b hb=>(h2 i j b hb).2) h3 h4 h5⟩
 ·rintro⟨ht,hr⟩
  generalize hgv:gval gv=v at hr
  generalize hS0:Blk gv=S at hr
  cases hr with
  | con k' ag' sz' rows' _ _ xs U T _ hcon hsz hfit hx hU hr hT hd1 hd2 hS=>
   rw[hc]at hcon
   cases hcon
   subst hgv
   subst hS0
   exact⟨ht,hsz,hfit,xs,hx,(fun _ _ h=>by cases h),U,T,fun i r j c _ h1 h2=>⟨hU i r j c h1 h2,(RelK.own kf).2 (hr i r j c h1 h2)⟩,fun i j b hb=>⟨fun _ _ h=>(by cases h),hT i j b hb⟩,hd1,hd2,hS⟩
  | _=>cases hc
theorem RelO.toD {w:World}{Z:Zone}{x:D}{v:Value}{S:Nat→Prop}(r:RelO w x v S):(∀b o,S b→¬Z b o)→RelD w Z x v:=by
 induction r with
 | int k n=>exact fun _=>.int k n
 | bool b=>exact fun _=>.bool b
 | str s=>exact fun _=>.str s
 | nil=>exact fun _=>.nil
 | con k ag sz rows x v xs U T S hcon hsz hfit hx hU hr hT hd1 hd2 hS ih=>
  intro hz
  cases x with
  | box cs=>exact .box cs v hx.oneCell
  | map sz rows=>exact .map sz rows v hx.oneCell
  | list ag' sz' rows'=>
   cases hcon
   obtain⟨e,hx⟩:=hx
   rcases hx.2 with⟨hv,hn⟩ | ⟨q,cap,cur,hv,hg,hh,hnc,hcm,hcs,htake⟩
   ·have:rows=[]:=List.eq_nil_of_length_eq_zero hn
    subst this
    rw[hv]
    exact .list ag sz [] none 0 0 0 (fun _ _=>undef) (Nat.le_refl _) (Nat.zero_le _) (by simp) (by simp) (by simp) (by simp)
   ·rw[hv]
    have hq:S q:=(hS q).2 (.inl (by rw[hv];rfl))
    refine .list ag sz rows (some ⟨q,0,none⟩) cap q 0 U hnc hcm hfit (fun _=>rfl) (fun i r j c h1 h2=>⟨?_,hz q _ hq⟩) (fun i r j c h1 h2=>ih i r j c h1 h2 fun b o hb=>hz b o ((hS b).2 (.inr ⟨i,j,hb⟩)))
    have h3:=hx.cells (g:=q) (by rw[hv];rfl) _ _ (hU i r j c h1 h2)
    have e1:(⟨q,0,none⟩:Addr).add (i*sz+j)=⟨q,0+(i*sz+j),none⟩:=by unfold Addr.add;split<;>simp_all
    rw[e1]at h3
    exact h3
  | _=>simp[D.con]at hcon
theorem Holds.block {w:World}{k:Kd}{sz:Nat}{v:Value}{n:Nat}{xs:List Value}(h:Holds w k sz v n xs) (hk:k.isM=false) (hn:0<n):
  ∃b c e,blk v=some b∧w.heap[b]?=some (.cells c e (0,0))∧n*sz≤c.size∧c.toList.take (n*sz)=xs∧∀(c':Array Value),c'.size=c.size→Holds (w.setRow b c') k sz v n (c'.toList.take (n*sz)):=by
 cases k with
 | map=>cases hk
 | fmap _=>cases hk
 | row=>
  obtain⟨e,h1,h2⟩:=h
  rcases h2 with⟨_,h2⟩ | ⟨q,cap,cur,hv,hg,hh,hnc,hcm,hcs,htake⟩
  ·omega
  ·have hle:n*sz≤cur.size:=by rw[hcs];exact Nat.mul_le_mul_right _ hnc
   refine⟨q,cur,e,by rw[hv];rfl,hh,hle,htake,fun c' hc'=>⟨e,?_,.inr ⟨q,cap,c',hv,hg,setRow_heap w q cur c' e _ hh,hnc,hcm,by rw[hc'];exact hcs,rfl⟩⟩⟩
   simp;omega
 | flat=>
  obtain⟨e,h1,h2⟩:=h
  rcases h2 with⟨_,h2⟩ | ⟨q,cap,cur,hv,hg,hh,hnc,hcm,hcs,htake⟩
  ·omega
  ·have hle:n*sz≤cur.size:=by rw[hcs];exact Nat.mul_le_mul_right _ hnc
   refine⟨q,cur,e,by rw[hv];rfl,hh,hle,htake,fun c' hc'=>⟨e,?_,.inr ⟨q,cap,c',hv,hg,setRow_heap w q cur c' e _ hh,hnc,hcm,by rw[hc'];exact hcs,rfl⟩⟩⟩
   simp;omega
 | box=>
  obtain⟨rfl,b,c,e,hv,hh,hc,hs⟩:=h
  refine⟨b,c,e,by rw[hv];rfl,hh,by omega,by rw[←hc,List.take_of_length_le];simp;omega,fun c' hc'=>⟨rfl,b,c',e,hv,setRow_heap w b c c' e _ hh,?_,by omega⟩⟩
  rw[List.take_of_length_le];simp;omega
theorem Holds.cell {w:World}{k:Kd}{sz:Nat}{v:Value}{n:Nat}{xs:List Value}(h:Holds w k sz v n xs) (hk:k.isM=false) {b:Nat}(hb:blk v=some b) {i:Nat}{u:Value}(hi:xs[i]?=some u):w.cell? ⟨b,i,none⟩=some u:=by
 have hlt:=(List.getElem?_eq_some_iff.1 hi).1
 have hl:=h.len
 have hn:0<n:=by
  rcases Nat.eq_zero_or_pos n with h0 | h0
  ·rw[h0,Nat.zero_mul]at hl;omega
  ·exact h0
 obtain⟨b',c,e,h1,h2,h3,h4,_⟩:=h.block hk hn
 rw[hb]at h1
 cases h1
 rw[←h4,List.getElem?_take]at hi
 split at hi
 ·simpa [World.cell?,h2] using hi
 ·cases hi
end Go.AM
namespace Go.AM
open Go Go.RowKit
def openC (fresh:Nat):Nat→List D→List CV
 | _,[]=>[]
 | c,d::ds=>(match d with
  | .list _ _ _=>.ow (.loc (fresh+c))
  | .box _=>.ow (.loc (fresh+c))
  | .map _ _=>.ow (.loc (fresh+c))
  | .nil=>.nilp
  | d=>.d d)::openC fresh (c+1) ds
def openO (fresh:Nat):Nat→List D→List (Id×AObj)
 | _,[]=>[]
 | c,d::ds=>match d with
  | .list ag sz rows=>(.loc (fresh+c),.tree .row ag sz rows none)::openO fresh (c+1) ds
  | .box cs=>(.loc (fresh+c),.tree .box true cs.length [.agg cs] none)::openO fresh (c+1) ds
  | .map sz rows=>(.loc (fresh+c),.tree .map true sz rows none)::openO fresh (c+1) ds
  | _=>openO fresh (c+1) ds
def closeL (f:CV→(D→List Id→Prop)→Prop):List CV→(List D→List Id→Prop)→Prop
 | [],K=>K [] []
 | c::r,K=>f c fun d is=>closeL f r fun ds js=>K (d::ds) (is++js)
def closeD (h:Heap):Nat→CV→(D→List Id→Prop)→Prop
 | 0,_,_=>False
 | n+1,c,K=>match c with
  | .d d=>(match isCon d with
   | true=>False
   | false=>K d [])
  | .nilp=>K .nil []
  | .nils ag sz=>(match Nat.blt 0 sz with
   | true=>K (.list ag sz []) []
   | false=>False)
  | .ow j=>(match h j with
   | some (.tree k ag sz rows none)=>(match conD k ag sz rows with
    | some x=>K x [j]
    | none=>False)
   | _=>False)
  | .ptr j o=>(match o with
   | 0=>(match h j with
    | some (.cells (c::cs))=>closeL (closeD h n) (c::cs) fun ds is=>K (.box ds) (j::is)
    | _=>False)
   | _=>False)
  | _=>False
def closeC (h:Heap) (cs:List CV) (K:List D→List Id→Prop):Prop:=closeL (closeD h 3) cs K
def idIn (i:Id):List Id→Bool
 | []=>false
 | j::l=>match Id.beq i j with
  | true=>true
  | false=>idIn i l
def nodupB:List Id→Bool
 | []=>true
 | i::l=>match idIn i l with
  | true=>false
  | false=>nodupB l
theorem idIn_iff {i:Id}:∀{l:List Id},idIn i l=true↔i∈l
 | []=>by simp[idIn]
 | j::l=>by
  unfold idIn
  cases hb:Id.beq i j with
  | true=>simp[Id.beq_iff.1 hb]
  | false=>simp[idIn_iff (l:=l),Id.beq_false.1 hb]
theorem nodupB_iff:∀{l:List Id},nodupB l=true↔l.Nodup
 | []=>by simp[nodupB]
 | i::l=>by
  unfold nodupB
  cases hb:idIn i l with
  | true=>simp[idIn_iff.1 hb]
  | false=>
   have:i∉l:=fun h=>by rw[idIn_iff.2 h]at hb;cases hb
   simp[this,nodupB_iff (l:=l)]
def goneAll:List Id→List (Id×AObj)
 | []=>[]
 | i::l=>(i,.gone)::goneAll l
inductive ClosedD (h:Heap):CV→D→List Id→Prop where
 | d (d:D) (hd:d.con=none):ClosedD h (.d d) d []
 | nilp:ClosedD h .nilp .nil []
 | nils (ag:Bool) (sz:Nat) (hsz:0<sz):ClosedD h (.nils ag sz) (.list ag sz []) []
 | ow (j:Id) (k:Kd) (ag:Bool) (sz:Nat) (rows:List D) (x:D) (hj:h j=some (.tree k ag sz rows none)) (hx:conD k ag sz rows=some x):ClosedD h (.ow j) x [j]
 | ptr (j:Id) (cs:List CV) (ds:List D) (iss:List (List Id)) (hj:h j=some (.cells cs)) (h0:0<cs.length) (h1:ds.length=cs.length) (h2:iss.length=cs.length)
   (hr:∀(q:Nat) c d is,cs[q]?=some c→ds[q]?=some d→iss[q]?=some is→ClosedD h c d is):ClosedD h (.ptr j 0) (.box ds) (j::iss.flatten)
theorem closeL_ok {h:Heap}{f:CV→(D→List Id→Prop)→Prop}(hf:∀c K,f c K→∃d is,K d is∧ClosedD h c d is):∀{cs:List CV}{K:List D→List Id→Prop},closeL f cs K→
  ∃(ds:List D) (iss:List (List Id)),K ds iss.flatten∧ds.length=cs.length∧iss.length=cs.length∧∀(q:Nat) c d is,cs[q]?=some c→ds[q]?=some d→iss[q]?=some is→ClosedD h c d is
 | [],K,hk=>⟨[],[],hk,rfl,rfl,by simp⟩
 | c::r,K,hk=>by
  obtain⟨d,is,hk,hc⟩:=hf _ _ hk
  obtain⟨ds,iss,h1,h2,h3,h4⟩:=closeL_ok hf hk
  refine⟨d::ds,is::iss,by simpa using h1,by simp[h2],by simp[h3],fun q c' d' is' g1 g2 g3=>?_⟩
  match q with
  | 0=>simp at g1 g2 g3;subst g1;subst g2;subst g3;exact hc
  | q+1=>simp at g1 g2 g3;exact h4 q c' d' is' g1 g2 g3
theorem closeD_ok {h:Heap}:∀(n:Nat) (c:CV) (K:D→List Id→Prop),closeD h n c K→∃d is,K d is∧ClosedD h c d is
 | 0,_,_,hk=>hk.elim
 | n+1,c,K,hk=>by
  cases c with
  | d d=>
   unfold closeD at hk
   cases hl:isCon d with
   | true=>simp only[hl]at hk
   | false=>simp only[hl]at hk;exact⟨d,[],hk,.d d (isCon_false hl)⟩
  | nilp=>exact⟨_,_,hk,.nilp⟩
  | nils ag sz=>
   simp only[closeD]at hk
   split at hk
   ·rename_i hb
    exact⟨_,_,hk,.nils ag sz (by simp[Nat.blt]at hb;omega)⟩
   ·exact hk.elim
  | ow j=>
   simp only[closeD]at hk
   split at hk
   ·rename_i k ag sz rows hj
    split at hk
    ·rename_i x hx
     exact⟨_,_,hk,.ow j k ag sz rows x hj hx⟩
    ·exact hk.elim
   ·exact hk.elim
  | ptr j o=>
   simp only[closeD]at hk
   split at hk
   ·split at hk
    ·rename_i c cs hj
     obtain⟨ds,iss,h1,h2,h3,h4⟩:=closeL_ok (fun c K=>closeD_ok n c K) hk
     exact⟨_,_,h1,.ptr j (c::cs) ds iss hj (by simp) h2 h3 h4⟩
    ·exact hk.elim
   ·exact hk.elim
  | _=>exact hk.elim
theorem closeC_ok {h:Heap}{cs:List CV}{K:List D→List Id→Prop}(hk:closeC h cs K):
  ∃(ds:List D) (iss:List (List Id)),K ds iss.flatten∧ds.length=cs.length∧iss.length=cs.length∧∀(q:Nat) c d is,cs[q]?=some c→ds[q]?=some d→iss[q]?=some is→ClosedD h c d is:=
 closeL_ok (fun c K=>closeD_ok 3 c K) hk
def wholeO:AObj→Prop
 | .tree _ _ _ _ none=>True
 | .cells _=>True
 | .part ..=>True
 | .fnl ..=>True
 | _=>False
theorem wholeO.zone {gv:Value}{ob:AObj}{b o:Nat}(h:wholeO ob) (hb:Blk gv b):zone1 gv ob b o:=by cases ob<;>first | exact hb | exact h.elim
theorem wholeO.obk {gv:Value}{ob:AObj}{b:Nat}(h:wholeO ob) (hb:Blk gv b):Obk gv ob b:=by cases ob<;>first | exact hb | exact h.elim
theorem wholeO.nosl {w:World}{Z:Zone}{g:Ghost}{h':Heap}{gv:Value}{ob:AObj}(h:wholeO ob) (r:RelObj w Z g h' ob gv):¬isSl gv:=by
 cases ob with
 | tree=>exact fun hs=>isTu_sl hs r.1
 | part=>exact fun hs=>isTu_sl hs r.1
 | fnl=>exact fun hs=>isTu_sl hs r.1
 | cells=>obtain⟨b,c,e,hv,_⟩:=r;rw[hv];exact fun h=>h
 | _=>exact h.elim
theorem ClosedD.whole {h:Heap}{c:CV}{d:D}{is:List Id}(q:ClosedD h c d is):∀i∈is,∃ob,h i=some ob∧wholeO ob:=by
 induction q with
 | d | nilp | nils=>simp
 | ow j k ag sz rows x hj hx=>
  intro i hi
  obtain rfl:i=j:=by simpa using hi
  exact⟨_,hj,trivial⟩
 | ptr j cs ds iss hj h0 h1 h2 hr ih=>
  intro i hi
  rcases List.mem_cons.1 hi with rfl | hi
  ·exact⟨_,hj,trivial⟩
  ·obtain⟨is,h3,h4⟩:=List.mem_flatten.1 hi
   obtain⟨q,hq⟩:=List.mem_iff_getElem?.1 h3
   have hlt:=(List.getElem?_eq_some_iff.1 hq).1
   exact ih q cs[q] ds[q] is (by simp) (by simp) hq i h4
theorem flat_inj {α:Type}{iss:List (List α)}(hn:iss.flatten.Nodup) {q q':Nat}{l l':List α}{x:α}(h:iss[q]?=some l) (h':iss[q']?=some l') (hx:x∈l) (hx':x∈l'):q=q':=by
 induction iss generalizing q q' with
 | nil=>simp at h
 | cons a iss ih=>
  rw[List.flatten_cons,List.nodup_append]at hn
  obtain⟨_,hn2,hn3⟩:=hn
  match q,q' with
  | 0,0=>rfl
  | 0,q'+1=>
   simp at h h'
   subst h
   exact absurd rfl (hn3 x hx x (List.mem_flatten.2 ⟨l',List.mem_of_getElem? h',hx'⟩))
  | q+1,0=>
   simp at h h'
   subst h'
   exact absurd rfl (hn3 x hx' x (List.mem_flatten.2 ⟨l,List.mem_of_getElem? h,hx⟩))
  | q+1,q'+1=>
   simp at h h'
   rw[ih hn2 h h']
theorem RelO.congr {w:World}{x:D}{v:Value}{S S':Nat→Prop}(r:RelO w x v S) (h:∀b,S b↔S' b):RelO w x v S':=by
 have:S=S':=funext fun b=>propext (h b)
 rw[←this];exact r
theorem ClosedD.rel {w:World}{X:Zone}{g:Ghost}{h:Heap}(R:RelH w X g h) {c:CV}{d:D}{is:List Id}(q:ClosedD h c d is):
  is.Nodup→∀{Z:Zone} {u:Value},RelC w Z g h c u→RelO w d u (fun b=>∃i∈is,Blk (g i) b):=by
 induction q with
 | d d hd=>
  rintro _ Z u ⟨hr,ha⟩
  have hs:∀b,(fun _:Nat=>False) b↔∃i∈([]:List Id),Blk (g i) b:=by simp
  cases hr with
  | int k n=>exact (RelO.int k n).congr hs
  | bool b=>exact (RelO.bool b).congr hs
  | str s=>exact (RelO.str s).congr hs
  | nil=>exact RelO.nil.congr hs
  | agg=>cases ha
  | _=>cases hd
 | nilp=>
  rintro _ Z u hr
  rw[show u=_ from hr]
  exact RelO.nil.congr (by simp)
 | nils ag sz hsz=>
  rintro _ Z u hr
  rw[show u=_ from hr]
  exact .con .row ag sz [] _ _ [] (fun _ _=>undef) (fun _ _ _=>False) _ rfl hsz (by simp) ⟨0,World.ownsRow_nil w 0 0 sz⟩ (by simp) (by simp) (by simp) (by simp) (by simp) (by simp[blk])
 | ow j k ag sz rows x hj hx=>
  rintro _ Z u ⟨_,_,hr⟩
  rw[hr (by rw[hj];rfl)]
  exact ((tree_iff hx).1 (R.objs j _ hj)).2.congr (by simp)
 | ptr j cs ds iss hj h0 h1 h2 hr ih=>
  rintro hn Z u ⟨⟨b,hb⟩,hu⟩
  obtain⟨b',cc,e,hg,hh,hs,hrel⟩:=R.objs j _ hj
  rw[hb]at hg
  obtain rfl:b=b':=by simpa using hg
  rw[hb]at hu
  have hu:u= .pointer (some ⟨b,0,none⟩):=hu
  subst hu
  obtain⟨hnj,hnf⟩:=List.nodup_cons.1 hn
  have hz:∀(q:Nat) d,ds[q]?=some d→∃is v,iss[q]?=some is∧cc[q]?=some v∧RelO w d v (fun b=>∃i∈is,Blk (g i) b):=by
   intro q d hd
   have hq:=(List.getElem?_eq_some_iff.1 hd).1
   have p3:iss[q]?=some iss[q]:=by simp
   refine⟨iss[q],cc[q],p3,by simp,?_⟩
   exact ih q cs[q] _ _ (by simp) hd p3 ((List.sublist_flatten_of_mem (List.mem_of_getElem? p3)).nodup hnf) (hrel q cs[q] cc[q] (by simp) (by simp))
  have hob:∀x∈iss.flatten,∃ob,h x=some ob∧wholeO ob:=fun x hx=>ClosedD.whole (.ptr j cs ds iss hj h0 h1 h2 hr) x (List.mem_cons_of_mem _ hx)
  have apart:∀x∈iss.flatten,∀b',Blk (g x) b'→b'≠b:=by
   rintro x hx b' hb' rfl
   obtain⟨ob,o1,o2⟩:=hob x hx
   have:=R.sep x j ob _ b' o1 hj (o2.obk hb') (show Blk (g j) b' from by rw[hb];exact .inl rfl)
   exact hnj (this▸hx)
  have memf:∀{q:Nat} {is:List Id} {x:Id},iss[q]?=some is→x∈is→x∈iss.flatten:=fun hq hx=>List.mem_flatten.2 ⟨_,List.mem_of_getElem? hq,hx⟩
  refine .con .box true ds.length [.agg ds] (.box ds) _ cc.toList (fun _ q=>cc.getD q undef) (fun i q b=>i=0∧∃is,iss[q]?=some is∧∃x∈is,Blk (g x) b) _ rfl (by omega) ?_ ?_ ?_ ?_ ?_ ?_ ?_ ?_
  ·intro r hr'
   obtain rfl:r= .agg ds:=by simpa using hr'
   refine⟨rfl,rfl,fun c hc=>?_⟩
   obtain⟨q,hq⟩:=List.mem_iff_getElem?.1 hc
   obtain⟨_,_,_,_,ho⟩:=hz q c hq
   exact ho.isAgg
  ·exact⟨rfl,b,cc,e,rfl,hh,rfl,by omega⟩
  ·intro i r q c hi hc
   match i with
   | 0=>
    simp at hi
    subst hi
    obtain⟨_,v,_,hv,_⟩:=hz q c hc
    simp[hv]
   | i+1=>simp at hi
  ·intro i r q c hi hc
   match i with
   | 0=>
    simp at hi
    subst hi
    obtain⟨is,v,his,hv,ho⟩:=hz q c hc
    have e1:cc.getD q undef=v:=by simp[hv]
    rw[e1]
    exact ho.congr fun b'=>⟨fun hx=>⟨rfl,is,his,hx⟩,fun⟨_,is',his',hx⟩=>by rw[his]at his';cases his';exact hx⟩
   | i+1=>simp at hi
  ·rintro i q b' ⟨rfl,is,his,_⟩
   have hlt:=(List.getElem?_eq_some_iff.1 his).1
   exact⟨.agg ds,ds[q],rfl,by simp[D.cells]⟩
  ·rintro i q b' ⟨_,is,his,x,hx,hb'⟩ he
   simp[blk]at he
   exact apart x (memf his hx) b' hb' he.symm
  ·rintro i q i' q' b' ⟨rfl,is,his,x,hx,hb'⟩ ⟨rfl,is',his',x',hx',hb''⟩
   obtain⟨ob,o1,o2⟩:=hob x (memf his hx)
   obtain⟨ob',o1',o2'⟩:=hob x' (memf his' hx')
   have:=R.sep x x' ob ob' b' o1 o1' (o2.obk hb') (o2'.obk hb'')
   subst this
   exact⟨rfl,flat_inj hnf his his' hx hx'⟩
  ·intro b'
   constructor
   ·rintro⟨x,hx,hb'⟩
    rcases List.mem_cons.1 hx with rfl | hx
    ·rw[hb]at hb'
     exact .inl (by rw[hb'.ptr];rfl)
    ·obtain⟨is,h3,h4⟩:=List.mem_flatten.1 hx
     obtain⟨q,hq⟩:=List.mem_iff_getElem?.1 h3
     exact .inr ⟨0,q,rfl,is,hq,x,h4,hb'⟩
   ·rintro (hb' | ⟨_,q,_,is,his,x,hx,hb'⟩)
    ·simp[blk]at hb'
     exact⟨j,by simp,by rw[hb,←hb'];exact .inl rfl⟩
    ·exact⟨x,List.mem_cons_of_mem _ (memf his hx),hb'⟩
end Go.AM
namespace Go.AM
open Go Go.RowKit
section
variable {C:Cx}{F:Nat→Prop}{s:Slots}{h:Heap}{g:Ghost}{a:Act}{w:World}
theorem updW_gone {l:List Id}:∀{h:Heap}{i:Id},updW h (goneAll l) i=if i∈l then some .gone else h i:=by
 induction l with
 | nil=>intro h i;simp[goneAll,updW]
 | cons j l ih=>
  intro h i
  show updW (updO h j .gone) (goneAll l) i=_
  rw[ih]
  by_cases h1:i∈l
  ·simp[h1]
  ·by_cases h2:i=j
   ·simp[updO,h2]
   ·simp[updO,h1,h2]
theorem RelS.regroup {h':Heap}{g':Ghost}{F':Nat→Prop}(R:RelS C F s h g a w) (T:Id→Prop)
  (hsame:∀i,¬T i→h' i=h i∧g' i=g i)
  (hT:∀i,T i→g' i=g i∨(isTu (g i)∧isTu (g' i)∧gval (g' i)=gval (g i))∨g i=undef)
  (hlv:∀i,T i→isTu (g i)→isLive (h' i)=true→isLive (h i)=true)
  (hnew:∀i ob,T i→h' i=some ob→(∃k ag sz rows foc,ob= .tree k ag sz rows foc)∨ob= .gone)
  (hobj:∀i o,T i→h' i=some o→(∀{x:CV} {v:Value},RelC w (zor (zone g h) C.X) g h x v→RelC w (zor (zone g' h') C.X) g' h' x v)→
   (∀{x:D} {v:Value},RelD w (zor (zone g h) C.X) x v→RelD w (zor (zone g' h') C.X) x v)→RelObj w (zor (zone g' h') C.X) g' h' o (g' i))
  (hblk:∀i ob b,T i→h' i=some ob→Obk (g' i) ob b→∃j o0,T j∧h j=some o0∧(∀o,zone1 (g j) o0 b o))
  (hsep:∀i j oi oj b,T i→T j→h' i=some oi→h' j=some oj→Obk (g' i) oi b→Obk (g' j) oj b→i=j)
  (hext:∀j,T (.ext j)→gsame (g (.ext j)) (g' (.ext j)))
  (hfree:∀n,F' n→g' (.loc n)=undef∧h' (.loc n)=none):RelS C F' s h' g' a w:=by
 have hz:∀b o,zor (zone g' h') C.X b o→zor (zone g h) C.X b o:=by
  rintro b o (⟨i,ob,hi,h1⟩ | hx)
  ·by_cases ti:T i
   ·obtain⟨j,o0,_,hj,hb⟩:=hblk i ob b ti hi h1.obk
    exact .inl ⟨j,_,hj,hb o⟩
   ·rw[(hsame i ti).1]at hi
    rw[(hsame i ti).2]at h1
    exact .inl ⟨i,ob,hi,h1⟩
  ·exact .inr hx
 have keep:∀i,¬isTu (g i)→g i≠undef→g' i=g i:=fun i h1 h2=>by
  by_cases ti:T i
  ·rcases hT i ti with h | h | h
   ·exact h
   ·exact absurd h.1 h1
   ·exact absurd h h2
  ·exact (hsame i ti).2
 have E:Evo w (zor (zone g h) C.X) g h w (zor (zone g' h') C.X) g' h':=by
  refine⟨fun b o u hu hn=>⟨hu,fun hy=>hn (hz b o hy)⟩,fun i b hb=>?_,fun i q hq=>?_,fun i hi=>?_,fun i n sz e hi hk=>?_,fun i hi=>?_,fun i hi hl=>?_⟩
  ·exact keep i (fun h=>by rw[hb]at h;obtain⟨_,_,h,_⟩:=h;cases h) (by rw[hb];simp[undef])
  ·exact keep i (fun h=>by rw[hq]at h;obtain⟨_,_,h,_⟩:=h;cases h) (by rw[hq];simp[undef])
  ·rw[keep i (isTu_sl hi) (fun h=>by rw[h]at hi;exact hi)];exact hi
  ·have e1:=keep i (isTu_sl hi) (fun h=>by rw[h]at hi;exact hi)
   by_cases ti:T i
   ·rcases hnew i _ ti hk with⟨_,_,_,_,_,h⟩ | h<;>cases h
   ·rw[(hsame i ti).1]at hk
    exact⟨n,Nat.le_refl _,hk,fun _=>e1⟩
  ·by_cases ti:T i
   ·rcases hT i ti with h | h | h
    ·rw[h];exact hi
    ·exact h.2.1
    ·rw[h]at hi;exact (isTu_undef hi).elim
   ·rw[(hsame i ti).2];exact hi
  ·by_cases ti:T i
   ·refine⟨hlv i ti hi hl,?_⟩
    rcases hT i ti with h | h | h
    ·rw[h]
    ·exact h.2.2
    ·rw[h]at hi;exact (isTu_undef hi).elim
   ·rw[(hsame i ti).1]at hl
    exact⟨hl,by rw[(hsame i ti).2]⟩
 refine R.step T E ⟨rfl,rfl,rfl,Nat.le_refl _,fun _ _ _=>rfl,fun _ _ _ hu _=>hu⟩ hsame (fun _ _ _ _ _ _=>rfl) (fun i o ti ho=>hobj i o ti ho E.relC E.relD) (fun i ob b o ti hi h1=>?_) hsep hext hfree
 obtain⟨j,o0,tj,hj,hb⟩:=hblk i ob b ti hi h1.obk
 exact .inl ⟨j,_,tj,hj,hb o⟩
theorem RelS.freeze (R:RelS C F s h g a w) {i:Id}{k:Kd}{ag:Bool}{sz:Nat}{rows:List D}(hi:h i=some (.tree k ag sz rows none)) {x:D}(hx:conD k ag sz rows=some x):
  RelS C F s (updO h i .gone) g a w∧RelD w (zor (zone g (updO h i .gone)) C.X) x (gval (g i)):=by
 have hob:=R.heap.objs i _ hi
 have hX:∀b o,Blk (g i) b→¬zor (zone g (updO h i .gone)) C.X b o:=by
  rintro b o hb (⟨j,ob,hj,h1⟩ | hx)
  ·by_cases hji:j=i
   ·subst hji
    simp[updO]at hj
    subst hj
    exact h1
   ·simp only[updO,if_neg hji]at hj
    exact hji (R.heap.sep j i ob _ b hj hi h1.obk hb)
  ·exact R.heap.apart i _ b o hi hb hx
 refine⟨R.regroup (fun j=>j=i) (fun j hj=>by simp[updO,hj]) ?_ ?_ ?_ ?_ ?_ ?_ ?_ ?_,?_⟩
 ·rintro j rfl
  exact .inl rfl
 ·rintro j rfl _ hl
  simp[updO,isLive]at hl
 ·rintro j ob rfl ho
  simp[updO]at ho
  exact .inr ho.symm
 ·rintro j o rfl ho _ _
  simp[updO]at ho
  subst ho
  trivial
 ·rintro j ob b rfl ho hb
  simp[updO]at ho
  subst ho
  exact hb.elim
 ·rintro j k _ _ _ rfl rfl _ _ _ _
  rfl
 ·intro j _
  exact .refl _
 ·intro n hn
  have:=R.free n hn
  have hne:Id.loc n≠i:=by rintro rfl;rw[this.2]at hi;cases hi
  exact⟨this.1,by simp[updO,hne,this.2]⟩
 ·exact ((tree_iff hx).1 hob).2.toD hX
theorem rowOf_cells {ag:Bool}{ds:List D}(hag:∀d∈ds,d.isAgg=false) (h1:ag=false→ds.length=1):(rowOf ag ds).cells=ds∧(rowOf ag ds).isAgg=ag:=by
 cases ag with
 | true=>exact⟨rfl,rfl⟩
 | false=>
  match ds,h1 rfl with
  | [d],_=>
   have:=hag d (by simp)
   refine⟨?_,this⟩
   show d.cells=[d]
   cases d<;>first | rfl | simp[D.isAgg]at this
theorem RelS.closeT (R:RelS C F s h g a w) {i:Id}{kd:Kd}{ag:Bool}{sz k:Nat}{rows:List D}{cs:List CV}(hi:h i=some (.tree kd ag sz rows (some (k,cs)))) (hkd:kd.froz=false)
  {ds:List D} {iss:List (List Id)} (hds:ds.length=cs.length) (his:iss.length=cs.length) (hnd:iss.flatten.Nodup) (hag:ag=false→ds.length=1)
  (hc:∀(q:Nat) c d is,cs[q]?=some c→ds[q]?=some d→iss[q]?=some is→ClosedD h c d is) {rows':List D} (hrows:rows.set k (rowOf ag ds)=rows'):
  ∃g',RelS C F s (updW (updO h i (.tree kd ag sz rows' none)) (goneAll iss.flatten)) g' a w:=by
 obtain⟨ht,h0,hf,xs,hx,hfoc,U,T,h1,h2,h3,h4,h5⟩:=R.heap.objs i _ hi
 obtain⟨hk,hcs,hrel⟩:=hfoc k cs rfl
 have hat:∀(q:Nat),q<cs.length→∃c d is,cs[q]?=some c∧ds[q]?=some d∧iss[q]?=some is:=fun q hq=>
  ⟨cs[q],ds[q],iss[q],by simp,by simp,by simp⟩
 have memf:∀{q:Nat} {is:List Id} {x:Id},iss[q]?=some is→x∈is→x∈iss.flatten:=fun hq hx=>List.mem_flatten.2 ⟨_,List.mem_of_getElem? hq,hx⟩
 have hmem:∀x∈iss.flatten,(∃(q:Nat) (is:List Id),iss[q]?=some is∧x∈is)∧∃ob,h x=some ob∧wholeO ob:=by
  intro x hx
  obtain⟨is,h6,h7⟩:=List.mem_flatten.1 hx
  obtain⟨q,hq⟩:=List.mem_iff_getElem?.1 h6
  have hlt:=(List.getElem?_eq_some_iff.1 hq).1
  obtain⟨c,d,is',e1,e2,e3⟩:=hat q (by omega)
  rw[hq]at e3
  cases e3
  exact⟨⟨q,is,hq,h7⟩,(hc q c d is e1 e2 hq).whole x h7⟩
 have hni:i∉iss.flatten:=by
  intro hm
  obtain⟨_,ob,o1,o2⟩:=hmem i hm
  rw[hi]at o1
  cases o1
  exact o2
 obtain⟨l1,hl1⟩:=Blk.fin (g i)
 obtain⟨l2,hl2⟩:=Blk.finAll (g:=g) iss.flatten
 obtain⟨gv,gt,gg,gb⟩:=mkTu (gval (g i)) (l1++l2) (fun b=>Blk (g i) b∨∃j∈iss.flatten,Blk (g j) b) (fun b hb=>by
  rcases hb with hb | ⟨j,hj,hb⟩
  ·exact List.mem_append.2 (.inl (hl1 b hb))
  ·exact List.mem_append.2 (.inr (hl2 j hj b hb)))
 have hh:∀j,updW (updO h i (.tree kd ag sz rows' none)) (goneAll iss.flatten) j=if j∈iss.flatten then some .gone else if j=i then some (.tree kd ag sz rows' none)else h j:=fun j=>by
  rw[updW_gone];rfl
 have hlen:rows'.length=rows.length:=by rw[←hrows];simp
 have xlen:xs.length=rows.length*sz:=hx.len
 have xat:∀j,j<sz→∃u,xs[k*sz+j]?=some u:=by
  intro j hj
  have:k*sz+j<xs.length:=by
   have:=Nat.mul_le_mul_right sz (show k+1≤rows.length from hk)
   rw[Nat.add_mul]at this
   omega
  exact⟨_,List.getElem?_eq_getElem this⟩
 have hown:∀(q:Nat) d,ds[q]?=some d→∃is u,iss[q]?=some is∧xs[k*sz+q]?=some u∧RelO w d u (fun b=>∃x∈is,Blk (g x) b):=by
  intro q d hd
  have hq:q<cs.length:=by rw[←hds];exact (List.getElem?_eq_some_iff.1 hd).1
  obtain⟨c,d',is,e1,e2,e3⟩:=hat q hq
  rw[hd]at e2
  cases e2
  obtain⟨u,hu⟩:=xat q (by omega)
  exact⟨is,u,e3,hu,(hc q c d is e1 hd e3).rel R.heap ((List.sublist_flatten_of_mem (List.mem_of_getElem? e3)).nodup hnd) (hrel q c u e1 hu)⟩
 have hda:∀d∈ds,d.isAgg=false:=by
  intro d hd
  obtain⟨q,hq⟩:=List.mem_iff_getElem?.1 hd
  obtain⟨_,_,_,_,ho⟩:=hown q d hq
  exact ho.isAgg
 obtain⟨rc,ra⟩:=rowOf_cells hda hag
 have apart:∀x b,x∈iss.flatten→Blk (g x) b→¬Blk (g i) b:=by
  intro x b hx' hb hb'
  obtain⟨_,ob,o1,o2⟩:=hmem x hx'
  exact hni (R.heap.sep x i ob _ b o1 hi (o2.obk hb) hb'▸hx')
 refine⟨updG g i gv,R.regroup (fun j=>j=i∨j∈iss.flatten) (fun j hj=>?_) ?_ ?_ ?_ ?_ ?_ ?_ ?_ ?_⟩
 ·simp only[not_or]at hj
  rw[hh,if_neg hj.2,if_neg hj.1]
  exact⟨rfl,if_neg hj.1⟩
 ·rintro j (rfl | hj)
  ·exact .inr (.inl ⟨ht,by simpa [updG] using gt,by simp[updG,gg]⟩)
  ·have hne:j≠i:=by rintro rfl;exact hni hj
   exact .inl (by simp[updG,hne])
 ·rintro j (rfl | hj) _ hl
  ·rw[hi];rfl
  ·rw[hh,if_pos hj]at hl
   cases hl
 ·rintro j ob (rfl | hj) ho
  ·rw[hh,if_neg hni,if_pos rfl]at ho
   cases ho
   exact .inl ⟨_,_,_,_,_,rfl⟩
  ·rw[hh,if_pos hj]at ho
   cases ho
   exact .inr rfl
 ·rintro j o (rfl | hj) ho EC ED
  ·rw[hh,if_neg hni,if_pos rfl]at ho
   cases ho
   have e1:updG g j gv j=gv:=by simp[updG]
   rw[e1]
   let T':Nat→Nat→Nat→Prop:=fun a q b=>if a=k then ∃is,iss[q]?=some is∧∃x∈is,Blk (g x) b else T a q b
   let U':Nat→Nat→Value:=fun a q=>if a=k then xs.getD (k*sz+q) undef else U a q
   have hTk:∀q b,T' k q b↔∃is,iss[q]?=some is∧∃x∈is,Blk (g x) b:=fun q b=>by simp[T']
   have hTo:∀a q,a≠k→T' a q=T a q:=fun a q ha=>by funext b;simp[T',ha]
   refine⟨gt,h0,fun r hr=>?_,xs,by rw[gg,hlen];exact hx,(fun _ _ h=>by cases h),U',T',fun a r q c _ hr hq=>?_,fun a q b hb=>⟨fun _ _ h=>(by cases h),?_⟩,fun a q b hb=>?_,fun a q a' q' b hb hb'=>?_,fun b=>?_⟩
   ·rw[←hrows]at hr
    rcases List.mem_or_eq_of_mem_set hr with hr | rfl
    ·exact hf r hr
    ·exact⟨ra,by rw[rc];omega,by rw[rc];exact hda⟩
   ·by_cases ha:a=k
    ·subst ha
     rw[←hrows,List.getElem?_set_self hk]at hr
     cases hr
     rw[rc]at hq
     obtain⟨is,u,e3,hu,ho⟩:=hown q c hq
     have hU':U' a q=u:=by simp[U',hu]
     rw[hU']
     refine⟨hu,(RelK.own hkd).2 (ho.congr fun b=>?_)⟩
     rw[hTk]
     exact⟨fun hx=>⟨is,e3,hx⟩,fun⟨is',his',hx⟩=>by rw[e3]at his';cases his';exact hx⟩
    ·rw[←hrows,List.getElem?_set_ne (by omega)]at hr
     have hU':U' a q=U a q:=by simp[U',ha]
     rw[hU',hTo a q ha]
     exact⟨(h1 a r q c (fun k' cs' hk'=>by cases hk';exact ha) hr hq).1,(h1 a r q c (fun k' cs' hk'=>by cases hk';exact ha) hr hq).2.map ED id⟩
   ·by_cases ha:a=k
    ·subst ha
     obtain⟨is,hx',_⟩:=(hTk q b).1 hb
     have hlt:=(List.getElem?_eq_some_iff.1 hx').1
     exact⟨rowOf ag ds,ds[q],by rw[←hrows,List.getElem?_set_self hk],by rw[rc];simp⟩
    ·rw[hTo a q ha]at hb
     obtain⟨_,r,c,p1,p2⟩:=h2 a q b hb
     exact⟨r,c,by rw[←hrows,List.getElem?_set_ne (by omega)];exact p1,p2⟩
   ·rw[gg]
    by_cases ha:a=k
    ·subst ha
     obtain⟨is,hx',x,hx,hb⟩:=(hTk q b).1 hb
     exact fun he=>apart x b (memf hx' hx) hb ((h5 b).2 (.inl he))
    ·rw[hTo a q ha]at hb
     exact h3 a q b hb
   ·by_cases ha:a=k
    ·by_cases ha':a'=k
     ·subst ha ha'
      obtain⟨is,hx',x,hx,hb⟩:=(hTk q b).1 hb
      obtain⟨is',hx'',x',hxx,hb'⟩:=(hTk q' b).1 hb'
      obtain⟨_,ob,p1,p2⟩:=hmem x (memf hx' hx)
      obtain⟨_,ob',p3,p4⟩:=hmem x' (memf hx'' hxx)
      have:=R.heap.sep x x' _ _ b p1 p3 (p2.obk hb) (p4.obk hb')
      subst this
      exact⟨rfl,flat_inj hnd hx' hx'' hx hxx⟩
     ·subst ha
      obtain⟨is,hx',x,hx,hb⟩:=(hTk q b).1 hb
      rw[hTo a' q' ha']at hb'
      exact absurd ((h5 b).2 (.inr ⟨a',q',hb'⟩)) (apart x b (memf hx' hx) hb)
    ·by_cases ha':a'=k
     ·subst ha'
      obtain⟨is,hx',x,hx,hb'⟩:=(hTk q' b).1 hb'
      rw[hTo a q ha]at hb
      exact absurd ((h5 b).2 (.inr ⟨a,q,hb⟩)) (apart x b (memf hx' hx) hb')
     ·rw[hTo a q ha]at hb
      rw[hTo a' q' ha']at hb'
      exact h4 a q a' q' b hb hb'
   ·rw[gb,gg]
    constructor
    ·rintro (hb | ⟨x,hx',hb⟩)
     ·rcases (h5 b).1 hb with hb | ⟨a,q,hb⟩
      ·exact .inl hb
      ·refine .inr ⟨a,q,?_⟩
       rw[hTo a q ((h2 a q b hb).1 k cs rfl)]
       exact hb
     ·obtain⟨⟨q,is,hq,hxi⟩,_⟩:=hmem x hx'
      exact .inr ⟨k,q,(hTk q b).2 ⟨is,hq,x,hxi,hb⟩⟩
    ·rintro (hb | ⟨a,q,hb⟩)
     ·exact .inl ((h5 b).2 (.inl hb))
     ·by_cases ha:a=k
      ·subst ha
       obtain⟨is,hx',x,hx,hb⟩:=(hTk q b).1 hb
       exact .inr ⟨x,memf hx' hx,hb⟩
      ·rw[hTo a q ha]at hb
       exact .inl ((h5 b).2 (.inr ⟨a,q,hb⟩))
  ·rw[hh,if_pos hj]at ho
   cases ho
   trivial
 ·rintro j ob b (rfl | hj) ho hb
  ·rw[hh,if_neg hni,if_pos rfl]at ho
   cases ho
   have hb:Blk gv b:=by simpa [Obk,updG] using hb
   rcases (gb b).1 hb with hb | ⟨x,hx',hb⟩
   ·exact⟨j,_,.inl rfl,hi,fun _=>hb⟩
   ·obtain⟨_,ob,p1,p2⟩:=hmem x hx'
    exact⟨x,_,.inr hx',p1,fun o=>p2.zone hb⟩
  ·rw[hh,if_pos hj]at ho
   cases ho
   exact hb.elim
 ·rintro j j' oj oj' b (rfl | hj) (rfl | hj') ho ho' hb hb'
  ·rfl
  ·rw[hh,if_pos hj']at ho'
   cases ho'
   exact hb'.elim
  ·rw[hh,if_pos hj]at ho
   cases ho
   exact hb.elim
  ·rw[hh,if_pos hj]at ho
   cases ho
   exact hb.elim
 ·rintro j (hj | hj)
  ·subst hj
   exact .inr ⟨ht,by simpa [updG] using gt,by simp[updG,gg]⟩
  ·have hne:Id.ext j≠i:=by rintro rfl;exact hni hj
   simp[updG,hne,gsame.refl]
 ·intro n hn
  have h6:=R.free n hn
  have hne:Id.loc n≠i:=by rintro rfl;rw[h6.2]at hi;cases hi
  have hnm:Id.loc n∉iss.flatten:=by
   intro hm
   obtain⟨_,_,p1,_⟩:=hmem _ hm
   rw[h6.2]at p1
   cases p1
  rw[hh,if_neg hnm,if_neg hne]
  exact⟨by simp[updG,hne,h6.1],h6.2⟩
end
end Go.AM
namespace Go.AM
open Go Go.RowKit
theorem openC_len {fresh:Nat}:∀{ds:List D}{c:Nat},(openC fresh c ds).length=ds.length
 | [],c=>rfl
 | d::ds,c=>by simp[openC,openC_len (ds:=ds)]
theorem openC_get {fresh:Nat}:∀{ds:List D}{c j:Nat}{d:D},ds[j]?=some d→
  (isCon d=true∧(openC fresh c ds)[j]?=some (.ow (.loc (fresh+(c+j)))))∨(d= .nil∧(openC fresh c ds)[j]?=some .nilp)∨(isCon d=false∧(openC fresh c ds)[j]?=some (.d d))
 | [],c,j,d,h=>by simp at h
 | x::ds,c,0,d,h=>by
  simp at h
  subst h
  cases x<;>first | exact .inl ⟨rfl,rfl⟩ | exact .inr (.inl ⟨rfl,rfl⟩) | exact .inr (.inr ⟨rfl,rfl⟩)
 | x::ds,c,j+1,d,h=>by
  simp at h
  have:=openC_get (fresh:=fresh) (c:=c+1) h
  rw[show c+1+j=c+(j+1)from by omega]at this
  simpa [openC] using this
theorem openO_cons {fresh c:Nat}{d:D}{ds:List D}{k:Kd}{ag:Bool}{sz:Nat}{rows:List D}(h:d.con=some (k,ag,sz,rows)):
  openO fresh c (d::ds)=(.loc (fresh+c),.tree k ag sz rows none)::openO fresh (c+1) ds:=by
 cases d<;>simp[D.con]at h
 all_goals
  obtain⟨rfl,rfl,rfl,rfl⟩:=h
  rfl
theorem openO_skip {fresh c:Nat}{d:D}{ds:List D}(h:isCon d=false):openO fresh c (d::ds)=openO fresh (c+1) ds:=by
 cases d<;>first | rfl | simp[isCon]at h
theorem openO_get {fresh:Nat}:∀{ds:List D}{c:Nat}{h:Heap}{x:Id},
  (∃(j:Nat) (d:D) (k:Kd) (ag:Bool) (sz:Nat) (rows:List D),ds[j]?=some d∧d.con=some (k,ag,sz,rows)∧x= .loc (fresh+(c+j))∧updW h (openO fresh c ds) x=some (.tree k ag sz rows none))∨
  ((∀(j:Nat) (d:D),ds[j]?=some d→isCon d=true→x≠ .loc (fresh+(c+j)))∧updW h (openO fresh c ds) x=h x)
 | [],c,h,x=>.inr ⟨by simp,rfl⟩
 | d::ds,c,h,x=>by
  cases hl:isCon d with
  | false=>
   rw[openO_skip hl]
   rcases openO_get (fresh:=fresh) (ds:=ds) (c:=c+1) (h:=h) (x:=x)with⟨j,d',k,ag,sz,rows,h1,h2,h3,h4⟩ | ⟨h1,h2⟩
   ·exact .inl ⟨j+1,d',k,ag,sz,rows,by simpa using h1,h2,by rw[h3];congr 1;omega,h4⟩
   ·refine .inr ⟨fun j d' hj hc=>?_,h2⟩
    match j with
    | 0=>simp at hj;subst hj;rw[hl]at hc;cases hc
    | j+1=>
     simp at hj
     have:=h1 j d' hj hc
     rw[show c+1+j=c+(j+1)from by omega]at this
     exact this
  | true=>
   obtain⟨k0,ag0,sz0,rows0,hcon⟩:=isCon_iff.1 hl
   rw[openO_cons hcon]
   have e:updW h ((.loc (fresh+c),.tree k0 ag0 sz0 rows0 none)::openO fresh (c+1) ds)=updW (updO h (.loc (fresh+c)) (.tree k0 ag0 sz0 rows0 none)) (openO fresh (c+1) ds):=rfl
   rw[e]
   rcases openO_get (fresh:=fresh) (ds:=ds) (c:=c+1) (h:=updO h (.loc (fresh+c)) (.tree k0 ag0 sz0 rows0 none)) (x:=x)with⟨j,d',k,ag,sz,rows,h1,h2,h3,h4⟩ | ⟨h1,h2⟩
   ·exact .inl ⟨j+1,d',k,ag,sz,rows,by simpa using h1,h2,by rw[h3];congr 1;omega,h4⟩
   ·by_cases hx:x= .loc (fresh+c)
    ·exact .inl ⟨0,d,k0,ag0,sz0,rows0,rfl,hcon,by simpa using hx,by rw[h2,hx];simp[updO]⟩
    ·refine .inr ⟨fun j d' hj hc=>?_,by rw[h2];simp[updO,hx]⟩
     match j with
     | 0=>simpa using hx
     | j+1=>
      simp at hj
      have:=h1 j d' hj hc
      rw[show c+1+j=c+(j+1)from by omega]at this
      exact this
section
variable {C:Cx}{F:Nat→Prop}{s:Slots}{h:Heap}{g:Ghost}{a:Act}{w:World}
def kid (fresh:Nat) (ds:List D) (x:Id) (j:Nat):Prop:=∃d,ds[j]?=some d∧isCon d=true∧x= .loc (fresh+j)
theorem kid_inj {fresh:Nat}{ds:List D}{x:Id}{j j':Nat}(h:kid fresh ds x j) (h':kid fresh ds x j'):j=j':=by
 obtain⟨_,_,_,h⟩:=h
 obtain⟨_,_,_,h'⟩:=h'
 rw[h]at h'
 simp at h'
 omega
theorem RelS.openT (R:RelS C F s h g a w) {i:Id}{kd:Kd}(hkd:kd.froz=false) {ag:Bool}{sz:Nat}{rows:List D}(hi:h i=some (.tree kd ag sz rows none)) {k:Nat}{r:D}(hr:rows[k]?=some r)
  {fresh:Nat} (hF:∀c,c<32→F (fresh+c)) (hn:r.cells.length≤32):
  ∃g',RelS C (fun n=>F n∧¬(fresh≤n∧n<fresh+32)) s (updW (updO h i (.tree kd ag sz rows (some (k,openC fresh 0 r.cells)))) (openO fresh 0 r.cells)) g' a w∧gval (g' i)=gval (g i):=by
 classical
 obtain⟨ht,h0,hf,xs,hx,_,U,T,h1,h2,h3,h4,h5⟩:=R.heap.objs i _ hi
 have h1:∀(i:Nat) r (j:Nat) c,rows[i]?=some r→r.cells[j]?=some c→xs[i*sz+j]?=some (U i j)∧RelO w c (U i j) (T i j):=fun i r j c p1 p2=>⟨(h1 i r j c (fun _ _ h=>by cases h) p1 p2).1,(RelK.own hkd).1 (h1 i r j c (fun _ _ h=>by cases h) p1 p2).2⟩
 obtain⟨f1,f2,f3⟩:=hf r (List.mem_of_getElem? hr)
 obtain⟨l1,hl1⟩:=Blk.fin (g i)
 have gcs:∀j,∃gv,isTu gv∧gval gv=U k j∧∀b,Blk gv b↔T k j b:=fun j=>mkTu (U k j) l1 (T k j) (fun b hb=>hl1 b ((h5 b).2 (.inr ⟨k,j,hb⟩)))
 let gc:Nat→Value:=fun j=>Classical.choose (gcs j)
 have hgc:∀j,isTu (gc j)∧gval (gc j)=U k j∧∀b,Blk (gc j) b↔T k j b:=fun j=>Classical.choose_spec (gcs j)
 obtain⟨gv,gt,gg,gb⟩:=mkTu (gval (g i)) l1 (fun b=>blk (gval (g i))=some b∨∃i' j,i'≠k∧T i' j b) (fun b hb=>by
  rcases hb with hb | ⟨i',j,_,hb⟩
  ·exact hl1 b ((h5 b).2 (.inl hb))
  ·exact hl1 b ((h5 b).2 (.inr ⟨i',j,hb⟩)))
 let K:=kid fresh r.cells
 let g':Ghost:=fun x=>if x=i then gv else if hx:∃j,K x j then gc (Classical.choose hx)else g x
 have kfree:∀x j,K x j→g x=undef∧h x=none∧x≠i:=by
  rintro x j ⟨_,hj,_,rfl⟩
  have:=R.free (fresh+j) (hF j (by have:=(List.getElem?_eq_some_iff.1 hj).1;omega))
  exact⟨this.1,this.2,fun e=>by rw[e,hi]at this;cases this.2⟩
 have gi:g' i=gv:=if_pos rfl
 have gk:∀x j,K x j→g' x=gc j:=by
  intro x j hj
  show (if x=i then gv else if hx:∃j,K x j then gc (Classical.choose hx)else g x)=_
  rw[if_neg (kfree x j hj).2.2,dif_pos ⟨j,hj⟩]
  rw[kid_inj (Classical.choose_spec (⟨j,hj⟩:∃j,K x j)) hj]
 have go:∀x,x≠i→(∀j,¬K x j)→g' x=g x:=by
  intro x h6 h7
  show (if x=i then gv else if hx:∃j,K x j then gc (Classical.choose hx)else g x)=_
  rw[if_neg h6,dif_neg (fun⟨j,hj⟩=>h7 j hj)]
 let h':=updW (updO h i (.tree kd ag sz rows (some (k,openC fresh 0 r.cells)))) (openO fresh 0 r.cells)
 have hk:∀x,(∃j d k' ag' sz' rows',K x j∧r.cells[j]?=some d∧d.con=some (k',ag',sz',rows')∧h' x=some (.tree k' ag' sz' rows' none))∨((∀j,¬K x j)∧h' x=updO h i (.tree kd ag sz rows (some (k,openC fresh 0 r.cells))) x):=by
  intro x
  rcases openO_get (fresh:=fresh) (ds:=r.cells) (c:=0) (h:=updO h i (.tree kd ag sz rows (some (k,openC fresh 0 r.cells)))) (x:=x)with⟨j,d,k',ag',sz',rows',p1,p2,p3,p4⟩ | ⟨p1,p2⟩
  ·rw[Nat.zero_add]at p3
   exact .inl ⟨j,d,k',ag',sz',rows',⟨d,p1,isCon_iff.2 ⟨_,_,_,_,p2⟩,p3⟩,p1,p2,p4⟩
  ·refine .inr ⟨?_,p2⟩
   rintro j ⟨d,q1,q2,q3⟩
   have:=p1 j d q1 q2
   rw[Nat.zero_add]at this
   exact this q3
 have hi':h' i=some (.tree kd ag sz rows (some (k,openC fresh 0 r.cells))):=by
  rcases hk i with⟨j,_,_,_,_,_,p1,_⟩ | ⟨_,p2⟩
  ·exact absurd rfl (kfree i j p1).2.2
  ·rw[p2];simp[updO]
 have hkid:∀x j d,K x j→r.cells[j]?=some d→∃k' ag' sz' rows',d.con=some (k',ag',sz',rows')∧h' x=some (.tree k' ag' sz' rows' none):=by
  intro x j d p1 p2
  rcases hk x with⟨j',d',k',ag',sz',rows',q1,q2,q3,q4⟩ | ⟨q1,_⟩
  ·have:=kid_inj p1 q1
   subst this
   rw[p2]at q2
   cases q2
   exact⟨_,_,_,_,q3,q4⟩
  ·exact absurd p1 (q1 j)
 have hoth:∀x,x≠i→(∀j,¬K x j)→h' x=h x:=by
  intro x p1 p2
  rcases hk x with⟨j,_,_,_,_,_,q1,_⟩ | ⟨_,q2⟩
  ·exact absurd q1 (p2 j)
  ·rw[q2];simp[updO,p1]
 have rk:∀j c,r.cells[j]?=some c→xs[k*sz+j]?=some (U k j)∧RelO w c (U k j) (T k j):=fun j c hc=>h1 k r j c hr hc
 refine⟨g',R.regroup (fun x=>x=i∨∃j,K x j) (fun x hx'=>?_) ?_ ?_ ?_ ?_ ?_ ?_ ?_ ?_,by rw[gi,gg]⟩
 ·simp only[not_or,not_exists]at hx'
  exact⟨hoth x hx'.1 hx'.2,go x hx'.1 hx'.2⟩
 ·rintro x (rfl | ⟨j,hj⟩)
  ·exact .inr (.inl ⟨ht,by rw[gi];exact gt,by rw[gi,gg]⟩)
  ·exact .inr (.inr (kfree x j hj).1)
 ·rintro x (rfl | ⟨j,hj⟩) hxt _
  ·rw[hi];rfl
  ·rw[(kfree x j hj).1]at hxt
   exact (isTu_undef hxt).elim
 ·rintro x ob (rfl | ⟨j,hj⟩) ho
  ·replace ho:=hi'.symm.trans ho
   cases ho
   exact .inl ⟨_,_,_,_,_,rfl⟩
  ·obtain⟨d,q1,q2,q3⟩:=hj
   obtain⟨_,_,_,_,_,q4⟩:=hkid x j d ⟨d,q1,q2,q3⟩ q1
   replace ho:=q4.symm.trans ho
   cases ho
   exact .inl ⟨_,_,_,_,_,rfl⟩
 ·rintro x o (rfl | ⟨j,hj⟩) ho EC ED
  ·replace ho:=hi'.symm.trans ho
   cases ho
   rw[gi]
   let T':Nat→Nat→Nat→Prop:=fun a q b=>a≠k∧T a q b
   have hT':∀a q,a≠k→T' a q=T a q:=fun a q ha=>by funext b;simp[T',ha]
   refine⟨gt,h0,hf,xs,by rw[gg];exact hx,fun k' cs' hk'=>?_,U,T',fun a y q c ha hy hq=>?_,fun a q b hb=>⟨fun k' cs' hk'=>?_,?_⟩,fun a q b hb=>by rw[gg];exact h3 a q b hb.2,fun a q a' q' b hb hb'=>h4 a q a' q' b hb.2 hb'.2,fun b=>?_⟩
   ·cases hk'
    refine⟨(List.getElem?_eq_some_iff.1 hr).1,by rw[openC_len];exact f2,fun j c u hj hu=>?_⟩
    have hlt:j<r.cells.length:=by rw[←openC_len (fresh:=fresh) (c:=0)];exact (List.getElem?_eq_some_iff.1 hj).1
    obtain⟨p1,p2⟩:=rk j r.cells[j] (by simp)
    rw[p1]at hu
    cases hu
    have hd:r.cells[j]?=some r.cells[j]:=by simp
    generalize r.cells[j]=d at hd p2
    rcases openC_get (fresh:=fresh) (c:=0) hd with⟨q1,q2⟩ | ⟨q1,q2⟩ | ⟨q1,q2⟩
    ·rw[hj]at q2
     cases q2
     have hK:K (.loc (fresh+j)) j:=⟨_,hd,q1,rfl⟩
     rw[Nat.zero_add]
     exact⟨p2.oneCell,by rw[gk _ j hK];exact (hgc j).1,fun _=>by rw[gk _ j hK,(hgc j).2.1]⟩
    ·rw[hj]at q2
     cases q2
     subst q1
     generalize U k j=v at p2
     generalize T k j=t at p2
     cases p2 with
     | nil=>rfl
     | con _ _ _ _ _ _ _ _ _ _ hcon=>cases hcon
    ·rw[hj]at q2
     cases q2
     refine⟨?_,f3 d (List.mem_of_getElem? hd)⟩
     generalize U k j=v at p2
     generalize T k j=t at p2
     cases p2 with
     | int k n=>exact .int k n
     | bool b=>exact .bool b
     | str s=>exact .str s
     | nil=>exact .nil
     | con _ _ _ _ _ _ _ _ _ _ hcon=>rw[isCon_false q1]at hcon;cases hcon
   ·have ha:a≠k:=ha k _ rfl
    rw[hT' a q ha]
    exact⟨(h1 a y q c hy hq).1,(RelK.own hkd).2 (h1 a y q c hy hq).2⟩
   ·cases hk'
    exact hb.1
   ·exact (h2 a q b hb.2).2
   ·rw[gb,gg]
  ·obtain⟨d,q1,q2,q3⟩:=hj
   have hK:K x j:=⟨d,q1,q2,q3⟩
   obtain⟨k',ag',sz',rows',hcon,q4⟩:=hkid x j d hK q1
   replace ho:=q4.symm.trans ho
   cases ho
   rw[gk x j hK]
   refine (tree_iff (conD_iff.2 hcon)).2 ⟨(hgc j).1,?_⟩
   rw[(hgc j).2.1]
   exact (rk j _ q1).2.congr fun b=>((hgc j).2.2 b).symm
 ·rintro x ob b (rfl | ⟨j,hj⟩) ho hb
  ·replace ho:=hi'.symm.trans ho
   cases ho
   rw[gi]at hb
   have hb:Blk gv b:=hb
   refine⟨x,_,.inl rfl,hi,fun _=>(h5 b).2 ?_⟩
   rcases (gb b).1 hb with hb | ⟨a,q,_,hb⟩
   ·exact .inl hb
   ·exact .inr ⟨a,q,hb⟩
  ·have hb:=hb.blk
   rw[gk x j hj]at hb
   exact⟨i,_,.inl rfl,hi,fun _=>(h5 b).2 (.inr ⟨k,j,((hgc j).2.2 b).1 hb⟩)⟩
 ·rintro x y ox oy b (rfl | ⟨j,hj⟩) (rfl | ⟨j',hj'⟩) ho ho' hb hb'
  ·rfl
  ·have hb:=hb.blk
   have hb':=hb'.blk
   rw[gi]at hb
   rw[gk y j' hj']at hb'
   have hb':=((hgc j').2.2 b).1 hb'
   rcases (gb b).1 hb with hb | ⟨a,q,ha,hb⟩
   ·exact absurd hb (h3 k j' b hb')
   ·exact absurd (h4 a q k j' b hb hb').1 ha
  ·have hb:=hb.blk
   have hb':=hb'.blk
   rw[gi]at hb'
   rw[gk x j hj]at hb
   have hb:=((hgc j).2.2 b).1 hb
   rcases (gb b).1 hb' with hb' | ⟨a,q,ha,hb'⟩
   ·exact absurd hb' (h3 k j b hb)
   ·exact absurd (h4 a q k j b hb' hb).1 ha
  ·have hb:=hb.blk
   have hb':=hb'.blk
   rw[gk x j hj]at hb
   rw[gk y j' hj']at hb'
   have e3:=(h4 k j k j' b (((hgc j).2.2 b).1 hb) (((hgc j').2.2 b).1 hb')).2
   subst e3
   obtain⟨_,_,_,p⟩:=hj
   obtain⟨_,_,_,p'⟩:=hj'
   rw[p,p']
 ·rintro x (hx' | ⟨j,_,_,_,hx'⟩)
  ·subst hx'
   rw[gi]
   exact .inr ⟨ht,gt,gg⟩
  ·cases hx'
 ·rintro n ⟨hn1,hn2⟩
  have h6:=R.free n hn1
  have hne:Id.loc n≠i:=by rintro rfl;rw[h6.2]at hi;cases hi
  have hnk:∀j,¬K (.loc n) j:=by
   rintro j ⟨_,q1,_,q2⟩
   have:=(List.getElem?_eq_some_iff.1 q1).1
   simp at q2
   omega
  exact⟨(go _ hne hnk).trans h6.1,(hoth _ hne hnk).trans h6.2⟩
end
end Go.AM
namespace Go.AM
open Go Go.RowKit
section
variable {C:Cx}{F:Nat→Prop}{s:Slots}{h h':Heap}{g:Ghost}{a:Act}{w w':World}
theorem RelS.treeNewG (R:RelS C F s h g a w) {T0:List Id}(hT:∀i∈T0,∃ob0,h i=some ob0∧wholeO ob0) {n:Nat}(hf:F n)
  (hos:w'.os=w.os∧w'.tape=w.tape∧w'.output=w.output∧w.heap.size≤w'.heap.size)
  (hblk:∀b,b<w.heap.size→(∀i∈T0,¬Blk (g i) b)→w'.heap[b]?=w.heap[b]?)
  {ob:AObj} (hzo:∀gv b o,zone1 gv ob b o→Blk gv b) {v:Value} (P:Nat→Prop) (l:List Nat) (hl:∀b,P b→b∈l) (hP:∀b,P b→(∃i∈T0,Blk (g i) b)∨w.heap.size≤b) (hv:v.oneCell'=true)
  (hrel:∀(Z':Zone) (g':Ghost) (h':Heap) (gv:Value),isTu gv→gval gv=v→(∀b,Blk gv b↔P b)→Evo w (zor (zone g h) C.X) g h w' Z' g' h'→RelObj w' Z' g' h' ob gv):
  ∃g',RelS C (fun k=>F k∧k≠n) s (updO (updW h (goneAll T0)) (.loc n) ob) g' a w'∧
   RelC w' (zor (zone g' (updO (updW h (goneAll T0)) (.loc n) ob)) C.X) g' (updO (updW h (goneAll T0)) (.loc n) ob) (.ow (.loc n)) v:=by
 obtain⟨hgn,hhn⟩:=R.free n hf
 obtain⟨gv,gt,gg,gb⟩:=mkTu v l P hl
 have hnT:Id.loc n∉T0:=by
  intro hm
  obtain⟨_,h1,_⟩:=hT _ hm
  rw[hhn]at h1
  cases h1
 let h':Heap:=updO (updW h (goneAll T0)) (.loc n) ob
 let g':Ghost:=updG g (.loc n) gv
 have hh:∀i,h' i=if i= .loc n then some ob else if i∈T0 then some .gone else h i:=fun i=>by
  show (if i= .loc n then _ else updW h (goneAll T0) i)=_
  rw[updW_gone]
 have gn:g' (.loc n)=gv:=by simp[g',updG]
 have go:∀i,i≠ .loc n→g' i=g i:=fun i hi=>by simp[g',updG,hi]
 have tuT:∀i∈T0,¬isSl (g i):=by
  intro i hi
  obtain⟨_,h1,h2⟩:=hT i hi
  exact h2.nosl (R.heap.objs i _ h1)
 have zT:∀i∈T0,∀b o,Blk (g i) b→zone g h b o:=by
  intro i hi b o hb
  obtain⟨_,h1,h2⟩:=hT i hi
  exact⟨i,_,h1,h2.zone hb⟩
 have hcell:∀b o u,w.cell? ⟨b,o,none⟩=some u→¬zone g h b o→w'.cell? ⟨b,o,none⟩=some u:=by
  intro b o u hu hn
  exact (World.cell?_of_block (a:=⟨b,o,none⟩) (hblk b (World.block_lt_of_cell? w ⟨b,o,none⟩ hu) (fun i hi hb=>hn (zT i hi b o hb)))).trans hu
 have hz:∀b o,zor (zone g' h') C.X b o→zor (zone g h) C.X b o∨w.heap.size≤b:=by
  rintro b o (⟨i,ob0,hi,h1⟩ | hx)
  ·rw[hh]at hi
   by_cases hin:i= .loc n
   ·rw[if_pos hin]at hi
    cases hi
    subst hin
    replace h1:Blk (g' (.loc n)) b:=hzo _ _ _ h1
    rw[gn]at h1
    rcases hP b ((gb b).1 h1)with⟨j,hj,hb⟩ | hb
    ·exact .inl (.inl (zT j hj b o hb))
    ·exact .inr hb
   ·rw[if_neg hin]at hi
    rw[go i hin]at h1
    by_cases hiT:i∈T0
    ·rw[if_pos hiT]at hi
     cases hi
     exact h1.elim
    ·rw[if_neg hiT]at hi
     exact .inl (.inl ⟨i,ob0,hi,h1⟩)
  ·exact .inl (.inr hx)
 have nfree:∀{i:Id},g i≠undef→i≠ .loc n:=by
  rintro i hu rfl
  exact hu hgn
 have E:Evo w (zor (zone g h) C.X) g h w' (zor (zone g' h') C.X) g' h':=by
  refine⟨fun b o u hu hn=>⟨hcell b o u hu (fun hy=>hn (.inl hy)),fun hy=>?_⟩,fun i b hb=>go i (nfree (by rw[hb];simp[undef])),fun i q hq=>go i (nfree (by rw[hq];simp[undef])),fun i hi=>?_,fun i k sz' e hi hk=>?_,fun i hi=>?_,fun i hi hlv=>?_⟩
  ·have:=World.block_lt_of_cell? w ⟨b,o,none⟩ hu
   simp at this
   rcases hz b o hy with h1 | h1
   ·exact hn h1
   ·omega
  ·rw[go i (nfree fun e=>by rw[e]at hi;exact hi)];exact hi
  ·have hin:i≠ .loc n:=nfree fun e=>by rw[e]at hi;exact hi
   rw[hh,if_neg hin]at hk
   have hiT:i∉T0:=fun hm=>tuT i hm hi
   rw[if_neg hiT]at hk
   exact⟨k,Nat.le_refl _,hk,fun _=>go i hin⟩
  ·rw[go i (nfree fun e=>isTu_undef (e▸hi))];exact hi
  ·have hin:i≠ .loc n:=nfree fun e=>isTu_undef (e▸hi)
   rw[hh,if_neg hin]at hlv
   by_cases hiT:i∈T0
   ·rw[if_pos hiT]at hlv
    cases hlv
   ·rw[if_neg hiT]at hlv
    exact⟨hlv,by rw[go i hin]⟩
 refine⟨g',R.step (F':=fun k=>F k∧k≠n) (fun i=>i= .loc n∨i∈T0) E ⟨hos.1,hos.2.1,hos.2.2.1,hos.2.2.2,fun b hb hn=>hblk b hb (fun i hi hbb=>hn 0 (zT i hi b 0 hbb)),hcell⟩ (fun i hi=>?_) (fun i o b hi ho hb=>?_) (fun i o ti ho=>?_) (fun i ob0 b o ti ho h1=>?_)
  (fun i j oi oj b ti tj ho ho' hb hb'=>?_) (fun j hj=>?_) (fun k hk=>?_),?_⟩
 ·simp only[not_or]at hi
  exact⟨by rw[show updO (updW h (goneAll T0)) (.loc n) ob i=_ from hh i,if_neg hi.1,if_neg hi.2],go i hi.1⟩
 ·simp only[not_or]at hi
  refine hblk b ((R.heap.objs i o ho).lt hb) (fun j hj hbb=>?_)
  obtain⟨_,h1,h2⟩:=hT j hj
  exact hi.2 (R.heap.sep i j o _ b ho h1 hb (h2.obk hbb)▸hj)
 ·replace ho:=(hh i).symm.trans ho
  by_cases hin:i= .loc n
  ·rw[if_pos hin]at ho
   cases ho
   subst hin
   rw[gn]
   exact hrel _ _ _ gv gt gg gb E
  ·rw[if_neg hin]at ho
   rcases ti with ti | ti
   ·exact absurd ti hin
   ·rw[if_pos ti]at ho
    cases ho
    trivial
 ·replace ho:=(hh i).symm.trans ho
  by_cases hin:i= .loc n
  ·rw[if_pos hin]at ho
   cases ho
   subst hin
   replace h1:Blk (g' (.loc n)) b:=hzo _ _ _ h1
   rw[gn]at h1
   rcases hP b ((gb b).1 h1)with⟨j,hj,hb⟩ | hb
   ·obtain⟨_,h2,h3⟩:=hT j hj
    exact .inl ⟨j,_,.inr hj,h2,h3.zone hb⟩
   ·exact .inr hb
  ·rw[if_neg hin]at ho
   rcases ti with ti | ti
   ·exact absurd ti hin
   ·rw[if_pos ti]at ho
    cases ho
    exact h1.elim
 ·replace ho:=(hh i).symm.trans ho
  replace ho':=(hh j).symm.trans ho'
  by_cases hin:i= .loc n
  ·by_cases hjn:j= .loc n
   ·rw[hin,hjn]
   ·rw[if_neg hjn]at ho'
    rcases tj with tj | tj
    ·exact absurd tj hjn
    ·rw[if_pos tj]at ho'
     cases ho'
     exact hb'.elim
  ·rw[if_neg hin]at ho
   rcases ti with ti | ti
   ·exact absurd ti hin
   ·rw[if_pos ti]at ho
    cases ho
    exact hb.elim
 ·rw[go (.ext j) (by simp)]
  exact .refl _
 ·obtain⟨hk1,hk2⟩:=hk
  have h6:=R.free k hk1
  have hkT:Id.loc k∉T0:=by
   intro hm
   obtain⟨_,h1,_⟩:=hT _ hm
   rw[h6.2]at h1
   cases h1
  have hne:Id.loc k≠ .loc n:=by simp[hk2]
  exact⟨(go _ hne).trans h6.1,by rw[show updO (updW h (goneAll T0)) (.loc n) ob (.loc k)=_ from hh _,if_neg hne,if_neg hkT];exact h6.2⟩
 ·exact⟨hv,by rw[gn];exact gt,fun _=>by rw[gn,gg]⟩
theorem RelS.treeNew (R:RelS C F s h g a w) {T0:List Id}(hT:∀i∈T0,∃ob,h i=some ob∧wholeO ob) {n:Nat}(hf:F n)
  (hos:w'.os=w.os∧w'.tape=w.tape∧w'.output=w.output∧w.heap.size≤w'.heap.size)
  (hblk:∀b,b<w.heap.size→(∀i∈T0,¬Blk (g i) b)→w'.heap[b]?=w.heap[b]?)
  {kd:Kd} {ag:Bool} {sz:Nat} {out:List D} {v:Value} (P:Nat→Prop) (l:List Nat) (hl:∀b,P b→b∈l) (hP:∀b,P b→(∃i∈T0,Blk (g i) b)∨w.heap.size≤b) (hv:v.oneCell'=true)
  (hrel:∀(Z':Zone) (g':Ghost) (h':Heap) (gv:Value),isTu gv→gval gv=v→(∀b,Blk gv b↔P b)→(∀{x:D} {u:Value},RelD w (zor (zone g h) C.X) x u→RelD w' Z' x u)→RelObj w' Z' g' h' (.tree kd ag sz out none) gv):
  ∃g',RelS C (fun k=>F k∧k≠n) s (updO (updW h (goneAll T0)) (.loc n) (.tree kd ag sz out none)) g' a w'∧
   RelC w' (zor (zone g' (updO (updW h (goneAll T0)) (.loc n) (.tree kd ag sz out none))) C.X) g' (updO (updW h (goneAll T0)) (.loc n) (.tree kd ag sz out none)) (.ow (.loc n)) v:=
 R.treeNewG hT hf hos hblk (ob:=.tree kd ag sz out none) (fun _ _ _ h=>h) P l hl hP hv fun Z' g' h' gv gt gg gb E=>hrel Z' g' h' gv gt gg gb E.relD
end
end Go.AM
namespace Go.AM
open Go Go.RowKit
def notFlat:Kd→Bool
 | .flat=>false
 | .fmap _=>false
 | _=>true
theorem notFlat_iff {k:Kd}:notFlat k=true↔k.froz=false:=by cases k<;>simp[notFlat,Kd.froz]
def closes (h:Heap):List Id→(Heap→List Id→List (Id×AObj)→Prop)→Prop
 | [],K=>K h [] []
 | i::r,K=>match h i with
  | some (.tree kd ag sz rows (some (k,cs)))=>req (notFlat kd)<| closeC h cs fun ds is=>match nodupB is with
   | true=>match ag || Nat.beq ds.length 1 with
    | true=>∃rows',rows.set k (rowOf ag ds)=rows'∧closes (updW (updO h i (.tree kd ag sz rows' none)) (goneAll is)) r fun h' rd wr=>K h' (i::(is++rd)) ((i,.tree kd ag sz rows' none)::(goneAll is++wr))
    | false=>False
   | false=>False
  | _=>False
theorem updW_append {l l':List (Id×AObj)}:∀{h:Heap},updW h (l++l')=updW (updW h l) l':=by
 induction l with
 | nil=>intro h;rfl
 | cons x l ih=>intro h;exact ih
theorem updW_eq {wr:List (Id×AObj)}:∀{h σh:Heap}{i:Id},σh i=h i→updW σh wr i=updW h wr i:=by
 induction wr with
 | nil=>intro h σh i e;exact e
 | cons x wr ih=>
  intro h σh i e
  refine ih ?_
  simp only[updO]
  split
  ·rfl
  ·exact e
theorem ClosedD.at {h σh:Heap}{c:CV}{d:D}{is:List Id}(q:ClosedD h c d is):(∀j∈is,σh j=h j)→ClosedD σh c d is:=by
 induction q with
 | d d hd=>exact fun _=>.d d hd
 | nilp=>exact fun _=>.nilp
 | nils ag sz hsz=>exact fun _=>.nils ag sz hsz
 | ow j k ag sz rows x hj hx=>exact fun he=>.ow j k ag sz rows x ((he j (by simp)).trans hj) hx
 | ptr j cs ds iss hj h0 h1 h2 hr ih=>
  intro he
  refine .ptr j cs ds iss ((he j (by simp)).trans hj) h0 h1 h2 fun q c d is e1 e2 e3=>ih q c d is e1 e2 e3 fun x hx=>he x (List.mem_cons_of_mem _ (List.mem_flatten.2 ⟨is,List.mem_of_getElem? e3,hx⟩))
theorem closes_ok {C:Cx}:∀{gs:List Id}{h:Heap}{K:Heap→List Id→List (Id×AObj)→Prop},closes h gs K→
  ∃rd wr,K (updW h wr) rd wr∧∀F s σh a w,Rel C F s σh a w→(∀i∈rd,σh i=h i)→Rel C F s (updW σh wr) a w
 | [],h,K,hk=>⟨[],[],hk,fun F s σh a w R _=>R⟩
 | i::r,h,K,hk=>by
  unfold closes at hk
  split at hk
  ·rename_i kd ag sz rows k cs hi
   obtain⟨hnf,hk⟩:=req_iff.1 hk
   obtain⟨ds,iss,hk,hdl,hol,hcl⟩:=closeC_ok hk
   split at hk
   ·rename_i hnd
    split at hk
    ·rename_i hag
     obtain⟨rows',hrows,hk⟩:=hk
     obtain⟨rd,wr,hK,H⟩:=closes_ok (C:=C) hk
     refine⟨i::(iss.flatten++rd),(i,.tree kd ag sz rows' none)::(goneAll iss.flatten++wr),?_,?_⟩
     ·rw[show updW h ((i,.tree kd ag sz rows' none)::(goneAll iss.flatten++wr))=updW (updW (updO h i (.tree kd ag sz rows' none)) (goneAll iss.flatten)) wr from updW_append]
      exact hK
     ·rintro F s σh a w ⟨g,R⟩ hrd
      have hσ:σh i=some (.tree kd ag sz rows (some (k,cs))):=(hrd i (by simp)).trans hi
      obtain⟨g',R'⟩:=R.closeT hσ (notFlat_iff.1 hnf) hdl hol (nodupB_iff.1 hnd) (fun e=>by rw[e]at hag;simpa using hag) (fun j c d is h1 h2 h3=>(hcl j c d is h1 h2 h3).at fun x hx=>
       hrd x (List.mem_cons_of_mem _ (List.mem_append.2 (.inl (List.mem_flatten.2 ⟨is,List.mem_of_getElem? h3,hx⟩))))) hrows
      rw[show updW σh ((i,.tree kd ag sz rows' none)::(goneAll iss.flatten++wr))=updW (updW (updO σh i (.tree kd ag sz rows' none)) (goneAll iss.flatten)) wr from updW_append]
      refine H F s _ a w ⟨g',R'⟩ fun x hx=>?_
      refine updW_eq ?_
      have:=hrd x (List.mem_cons_of_mem _ (List.mem_append.2 (.inr hx)))
      simp only[updO]
      split
      ·rfl
      ·exact this
    ·exact hk.elim
   ·exact hk.elim
  ·exact hk.elim
theorem okop_closes {C:Cx}{o:Oper}{fresh:Nat}{s:Slots}{h:Heap}{gs:List Id}{K:Heap→(Out→Prop)→Prop}{k:Out→Prop}
  (hk:closes h gs fun h' rd wr=>K h' fun out=>k ⟨out.val,rd++out.rd,wr++out.wr⟩)
  (hK:∀h' k',K h' k'→∃out,k' out∧OKop C o fresh s h' out):∃out,k out∧OKop C o fresh s h out:=by
 obtain⟨rd,wr,hk,H⟩:=closes_ok (C:=C) hk
 obtain⟨out,hk,hok⟩:=hK _ _ hk
 refine⟨_,hk,?_⟩
 intro F σs σh a w Q R ho hrd hF hd
 have R':=H F σs σh a w R (fun i hi=>hrd i (List.mem_append.2 (.inl hi)))
 have:=hok F σs (updW σh wr) a w Q R' ho (fun i hi=>updW_eq (hrd i (List.mem_append.2 (.inr hi)))) hF hd
 rw[show updW σh (wr++out.wr)=updW (updW σh wr) out.wr from updW_append]
 exact this
end Go.AM
namespace Go.AM
open Go Go.RowKit
def withCl (h:Heap) (K:Heap→(Out→Prop)→Prop) (k:Out→Prop):Prop:=∃gs,closes h gs fun h' rd wr=>K h' fun out=>k ⟨out.val,rd++out.rd,wr++out.wr⟩
def isT:AV→Bool
 | .v (.c (.op _ _ _ _))=>true
 | .v (.c (.ow _))=>true
 | _=>false
def notMap:Kd→Bool
 | .flat=>false
 | .fmap _=>false
 | .map=>false
 | _=>true
def withP (x:AV) (h:Heap) (K:Id→Kd→Bool→Nat→List D→Option (Nat×List CV)→Nat→Nat→Prop):Prop:=
 match x with
 | .v (.c (.op id sz kk o))=>match h id with
  | some (.tree kd ag sz' rows foc)=>req (Nat.beq sz' sz) (req (notMap kd) (K id kd ag sz' rows foc kk o))
  | _=>False
 | .v (.c (.ow id))=>match h id with
  | some (.tree kd ag sz rows foc)=>match kd with
   | .box=>K id .box ag sz rows foc 0 0
   | _=>False
  | _=>False
 | _=>False
def notCon:D→Bool
 | .list _ _ _=>false
 | .box _=>false
 | .map _ _=>false
 | .nil=>false
 | _=>true
def loadT (ti:Types) (t:TypeId) (x:AV) (fresh:Nat) (h:Heap) (k:Out→Prop):Prop:=
 withT ti t fun i=>withP x h fun id kd ag sz rows foc kk o=>
 match foc with
 | some (k',cs)=>k'=kk∧req (Nat.ble (o+i.size) cs.length) (k ⟨.v (V1.ofCells (rowD i.desc) ((cs.drop o).take i.size)),[id],[]⟩)
 | none=>∃r,rows[kk]?=some r∧req (Nat.ble (o+i.size) r.cells.length) (∃b:Bool,match b with
  | true=>req (allB notCon ((r.cells.drop o).take i.size)) (k ⟨.v (V1.ofCells (rowD i.desc) (((r.cells.drop o).take i.size).map CV.d)),[id],[]⟩)
  | false=>req (Nat.ble r.cells.length 32) (k ⟨.v (V1.ofCells (rowD i.desc) (((openC fresh 0 r.cells).drop o).take i.size)),[id],(id,.tree kd ag sz rows (some (kk,openC fresh 0 r.cells)))::openO fresh 0 r.cells⟩))
def outLoadT (ti:Types) (t:TypeId) (x:AV) (fresh:Nat) (h:Heap) (k:Out→Prop):Prop:=withCl h (fun h'=>loadT ti t x fresh h') k
def storeT (ti:Types) (t:TypeId) (x y:AV) (fresh:Nat) (h:Heap) (k:Out→Prop):Prop:=
 withT ti t fun i=>withV y fun y=>req (Nat.beq y.cells.length i.size)<| withP x h fun id kd ag sz rows foc kk o=>
 match foc with
 | some (k',cs)=>k'=kk∧req (Nat.ble (o+i.size) cs.length) (k ⟨.u,[id],[(id,.tree kd ag sz rows (some (kk,cs.take o++y.cells++cs.drop (o+i.size))))]⟩)
 | none=>∃r,rows[kk]?=some r∧req (Nat.ble (o+i.size) r.cells.length) (req (Nat.ble r.cells.length 32)
   (k ⟨.u,[id],(id,.tree kd ag sz rows (some (kk,(openC fresh 0 r.cells).take o++y.cells++(openC fresh 0 r.cells).drop (o+i.size))))::openO fresh 0 r.cells⟩))
def outStoreT (ti:Types) (t:TypeId) (x y:AV) (fresh:Nat) (h:Heap) (k:Out→Prop):Prop:=withCl h (fun h'=>storeT ti t x y fresh h') k
def outFieldT (ti:Types) (t:TypeId) (x:AV) (f:Nat) (h:Heap) (k:Out→Prop):Prop:=
 withT ti t fun i=>
 match i.desc with
 | .struct fs=>match fs[f]? with
  | some fd=>withT ti fd.type fun j=>req (Nat.blt 0 j.size)<| withP x h fun id _ _ sz _ _ kk o=>k ⟨.v (.c (.op id sz kk (o+fd.offset))),[id],[]⟩
  | none=>False
 | _=>False
def outIndexT (M:Mach) (ti:Types) (t:TypeId) (x i:AV) (h:Heap) (k:Out→Prop):Prop:=
 withI i fun _ n=>withT ti t fun q=>
 match q.desc with
 | .slice e=>withT ti e fun j=>match x with
  | .v (.c (.ow id))=>match h id with
   | some (.tree kd ag sz rows _)=>match kd with
    | .row=>req (Nat.beq sz j.size)<| (M.lock fun _=>0≤n∧n.toNat<rows.length)∧k ⟨.v (.c (.op id sz n.toNat 0)),[id],[]⟩
    | _=>False
   | _=>False
  | _=>False
 | _=>False
def outLenT (M:Mach) (ti:Types) (t:TypeId) (x:AV) (h:Heap) (k:Out→Prop):Prop:=
 withT ti t fun q=>match x with
 | .v (.c (.ow id))=>match h id with
  | some (.tree kd _ _ rows _)=>match kd with
   | .row=>(match q.desc with
    | .slice _=>∃z:Int,M.lenI rows=z∧k ⟨.v (.d (.int .i64 z)),[id],[]⟩
    | _=>False)
   | .map=>(match q.desc with
    | .map _ _=>∃z:Int,M.lenI rows=z∧k ⟨.v (.d (.int .i64 z)),[id],[]⟩
    | _=>False)
   | _=>False
  | _=>False
 | _=>False
def outNilCheckT (x:AV) (h:Heap) (k:Out→Prop):Prop:=withP x h fun id _ _ _ _ _ _ _=>k ⟨x,[id],[]⟩
end Go.AM
namespace Go.AM
open Go Go.RowKit
section
variable {C:Cx}{ti:Types}{o:Oper}{fresh:Nat}{s:Slots}{h:Heap}{k:Out→Prop}
def TIone (ti:Types):Prop:=∀t x,ti t=some x→rowD x.desc=false→x.size=1
theorem rangeArr_get {n:Nat}{U:Nat→Value}{j:Nat}{u:Value}(h:(((List.range n).map U).toArray)[j]?=some u):j<n∧u=U j:=by
 simp only[List.getElem?_toArray,List.getElem?_map,Option.map_eq_some_iff]at h
 obtain⟨x,hx,rfl⟩:=h
 obtain⟨hlt,hx⟩:=List.getElem?_eq_some_iff.1 hx
 simp at hlt hx
 subst hx
 exact⟨hlt,rfl⟩
theorem run_load_cells {P:Program}{w:World}{t:TypeId}{i:TI}(hti:TIok P ti) (h1:TIone ti) (hi:ti t=some i) {b q:Nat}{vs:Array Value}(hs:vs.size=i.size)
  (hc:∀(j:Nat) u,vs[j]?=some u→w.cell? ⟨b,q+j,none⟩=some u):
  ∃v,(Instr.loadAt t (.pointer (some ⟨b,q,none⟩))).run P w= .ok v w∧(rowD i.desc=true→v= .agg vs)∧(rowD i.desc=false→vs=#[v]):=by
 obtain⟨hu,ii,hii,hsz,_⟩:=hti t i hi
 cases hr:rowD i.desc with
 | true=>
  refine⟨.agg vs,?_,fun _=>rfl,fun e=>by cases e⟩
  have:=run_loadAt_mid (P:=P) w b q t vs.toList i.desc (fun j v hv=>hc j v (by simpa using hv)) hu (by revert hr;cases i.desc<;>simp[rowD,TypeDesc.isRow]) (by simp[hii,hsz,hs])
  simpa using this
 | false=>
  have e1:=h1 t i hi hr
  obtain⟨v,hv⟩:∃v,vs=#[v]:=by
   have:vs.size=1:=by omega
   exact⟨vs[0],by
    apply Array.ext
    ·simp[this]
    ·intro k h1 h2
     obtain rfl:k=0:=by omega
     rfl⟩
  subst hv
  refine⟨v,?_,fun e=>(by cases e),fun _=>rfl⟩
  have hag:(isAgg t).run P w= .ok false w:=by
   unfold isAgg
   rw[Sem.run_bind,run_underlying hu w]
   revert hr
   cases i.desc<;>simp[rowD]
  have:=hc 0 v rfl
  simp only[Nat.add_zero]at this
  simp[Instr.loadAt,Instr.sureAddr,loadVar,hag,this]
theorem load_core (hti:TIok C.P ti) (h1:TIone ti) (t:TypeId) (X:AV) (hk:outLoad ti t X h k):∃out,k out∧out.wr=[]∧
  ∀F σs σh g a w u,RelS C F σs σh g a w→RelAV w (zor (zone g σh) C.X) g σh X u→(∀i∈out.rd,σh i=h i)→
   ∃v,(Instr.loadAt t u).run C.P w= .ok v w∧RelAV w (zor (zone g σh) C.X) g σh out.val v:=by
 unfold outLoad at hk
 obtain⟨i,hi,hk2⟩:=withT_iff.1 hk
 clear hk
 have fin:∀(cs:List CV) (rd:List Id),cs.length=i.size→
   (∀F σs σh g a w u,RelS C F σs σh g a w→RelAV w (zor (zone g σh) C.X) g σh X u→(∀i∈rd,σh i=h i)→
    ∃b q,∃vs:Array Value,u= .pointer (some ⟨b,q,none⟩)∧vs.size=i.size∧(∀(j:Nat) u,vs[j]?=some u→w.cell? ⟨b,q+j,none⟩=some u)∧
     ∀(j:Nat) c u,cs[j]?=some c→vs[j]?=some u→RelC w (zor (zone g σh) C.X) g σh c u)→
   ∀F σs σh g a w u,RelS C F σs σh g a w→RelAV w (zor (zone g σh) C.X) g σh X u→(∀i∈rd,σh i=h i)→
    ∃v,(Instr.loadAt t u).run C.P w= .ok v w∧RelAV w (zor (zone g σh) C.X) g σh (.v (V1.ofCells (rowD i.desc) cs)) v:=by
  intro cs rd hl H F σs σh g a w u R hu hrd
  obtain⟨b,q,vs,he,hvs,hc,hr⟩:=H F σs σh g a w u R hu hrd
  obtain⟨v,hv,ha,hb⟩:=run_load_cells (P:=C.P) (w:=w) hti h1 hi hvs hc
  refine⟨v,by rw[he];exact hv,?_⟩
  have:=RelV1.ofCells (ag:=rowD i.desc) (by omega) hr
  cases hrow:rowD i.desc with
  | true=>rw[ha hrow];rw[hrow]at this;exact this.1 rfl
  | false=>rw[hrow]at this;exact this.2 rfl v (hb hrow)
 split at hk2
 ·rename_i id q
  split at hk2
  ·rename_i cs hcs
   obtain⟨hle,hk⟩:=req_iff.1 hk2
   have hle:q+i.size≤cs.length:=by simpa using hle
   refine⟨_,hk,rfl,fin _ _ (by simp;omega) fun F σs σh g a w u R hv hrd=>?_⟩
   obtain⟨⟨b,hb⟩,hv⟩:=hv
   rw[hb]at hv
   have hh:σh id=some (.cells cs):=(hrd id (by simp)).trans hcs
   obtain⟨b',c,e,hg,hheap,hsz,hr⟩:=R.heap.objs id _ hh
   rw[hb]at hg
   obtain rfl:b=b':=by simpa using hg
   have hget:∀(j:Nat) u,(c.extract q (q+i.size))[j]?=some u→c[q+j]?=some u∧j<i.size:=by
    intro j u hu
    have hlt:=(Array.getElem?_eq_some_iff.1 hu).1
    simp at hlt
    refine⟨?_,by omega⟩
    rw[←hu,Array.getElem?_extract]
    rw[if_pos (by omega)]
   refine⟨b,q,c.extract q (q+i.size),hv,by simp;omega,fun j u hu=>?_,fun j x u hx' hu=>?_⟩
   ·rw[cell_of_row w b (q+j) c e (0,0) hheap]
    exact (hget j u hu).1
   ·obtain⟨h1',h2'⟩:=hget j u hu
    refine hr (q+j) x u ?_ h1'
    simpa [List.getElem?_take,h2'] using hx'
  ·exact hk2.elim
 ·rename_i ag sz d
  obtain⟨hag,hk⟩:=req_iff.1 hk2
  obtain⟨hsz,hk⟩:=req_iff.1 hk
  have hag:rowD i.desc=ag:=by simpa using hag
  have hsz:sz=i.size:=by simpa using hsz
  refine⟨_,hk,rfl,fun F σs σh g a w u R hv _=>?_⟩
  obtain⟨⟨f1,f2,f3⟩,b,q,hv,U,hU⟩:=hv
  let vs:Array Value:=((List.range d.cells.length).map U).toArray
  have hget:∀(j:Nat) u,vs[j]?=some u→∃c,d.cells[j]?=some c∧u=U j:=by
   intro j u hu
   obtain⟨hlt,rfl⟩:=rangeArr_get hu
   exact⟨d.cells[j],by simp[hlt],rfl⟩
  obtain⟨v,hrun,ha,hb⟩:=run_load_cells (P:=C.P) (w:=w) (vs:=vs) (b:=b) (q:=q) hti h1 hi (by simp[vs];omega) (fun j u hu=>by
   obtain⟨c,hc,rfl⟩:=hget j u hu
   exact (hU j c hc).1)
  refine⟨v,by rw[hv];exact hrun,?_⟩
  cases hrow:rowD i.desc with
  | true=>
   rw[ha hrow]
   have hd:d.isAgg=true:=by rw[f1,←hag,hrow]
   obtain⟨cs,rfl⟩:∃cs,d= .agg cs:=by cases d<;>first | exact⟨_,rfl⟩ | simp[D.isAgg]at hd
   refine RelD.agg cs vs (by simp[vs,D.cells]) f3 (fun j c u hc hu=>?_)
   obtain⟨c',hc',rfl⟩:=hget j u hu
   exact (hU j c hc).2.2
  | false=>
   have hd:d.isAgg=false:=by rw[f1,←hag,hrow]
   have hcell:d.cells=[d]:=by cases d<;>first | rfl | simp[D.isAgg]at hd
   have hvv:=hb hrow
   obtain⟨c',hc',he⟩:=hget 0 v (by rw[hvv];rfl)
   rw[he]
   exact (hU 0 d (by rw[hcell];rfl)).2.2
 ·rename_i cs
  obtain⟨hle,hk⟩:=req_iff.1 hk2
  have hle:i.size≤cs.length:=by simpa using hle
  refine⟨_,hk,rfl,fin _ _ (by simp;omega) fun F σs σh g a w u R hv _=>?_⟩
  obtain⟨f1,b,q,hv,U,hU⟩:=hv
  refine⟨b,q,((List.range i.size).map U).toArray,hv,by simp,fun j u hu=>?_,fun j c u hc hu=>?_⟩
  ·obtain⟨hlt,rfl⟩:=rangeArr_get hu
   exact (hU j cs[j] (by simp)).1
  ·obtain⟨hlt,rfl⟩:=rangeArr_get hu
   simp only[List.getElem?_map,List.getElem?_take,hlt,if_true,Option.map_eq_some_iff]at hc
   obtain⟨d,hd,rfl⟩:=hc
   exact⟨(hU j d hd).2.2,f1 d (List.mem_of_getElem? hd)⟩
 ·rename_i id base sz kk o
  split at hk2
  rotate_left
  ·exact hk2.elim
  rename_i cs hcs
  split at hk2
  rotate_left
  ·obtain⟨hs1,hk⟩:=req_iff.1 hk2
   obtain⟨hs2,c0,hc0,hk⟩:=req_iff.1 hk
   have hs1:=Nat.eq_of_beq_eq_true hs1
   refine⟨_,hk,rfl,fin _ _ (by simp[hs1]) fun F σs σh g a w u R hv hrd=>?_⟩
   obtain⟨⟨b,hb⟩,hv⟩:=hv
   rw[hb]at hv
   have hh:σh id=some (.cells cs):=(hrd id (by simp)).trans hcs
   obtain⟨b',c,e,hg,hheap,hsz,hr⟩:=R.heap.objs id _ hh
   rw[hb]at hg
   obtain rfl:b=b':=by simpa using hg
   have hlt:=(List.getElem?_eq_some_iff.1 hc0).1
   refine⟨b,base+(kk*sz+o),#[c[base+(kk*sz+o)]'(by omega)],hv,by simp[hs1],fun j u hu=>?_,fun j x u hx' hu=>?_⟩
   ·cases j with
    | zero=>
     simp at hu
     subst hu
     rw[cell_of_row w b _ c e (0,0) hheap]
     simp
    | succ j=>simp at hu
   ·cases j with
    | zero=>simp at hx' hu;subst hx';subst hu;exact hr _ _ _ hc0 (by simp)
    | succ j=>simp at hx'
  rename_i ds hds
  obtain⟨n,r,hn,hr0,hk2⟩:=hk2
  obtain⟨hle,hk⟩:=req_iff.1 hk2
  have hle:=Nat.le_of_ble_eq_true hle
  have hn:=Nat.le_of_ble_eq_true hn
  obtain⟨hkk,rfl⟩:=rowsOf_get hr0
  have hle:o+i.size≤((ds.drop (kk*sz)).take sz).length:=hle
  have hks:kk*sz+sz≤ds.length:=by
   have:=Nat.mul_le_mul_right sz (show kk+1≤n from hkk)
   rw[Nat.add_mul]at this
   omega
  have hle:o+i.size≤sz:=by simp at hle;omega
  have hrc:(rowOf true ((ds.drop (kk*sz)).take sz)).cells=(ds.drop (kk*sz)).take sz:=rfl
  refine⟨_,hk,rfl,fin _ _ (by rw[hrc];simp;omega) fun F σs σh g a w u R hv hrd=>?_⟩
  obtain⟨al,ar⟩:=allN_rel (w:=w) (Z:=zor (zone g σh) C.X) (g:=g) (h:=σh) hds
  obtain⟨⟨b,hb⟩,hv⟩:=hv
  rw[hb]at hv
  have hh:σh id=some (.cells cs):=(hrd id (by simp)).trans hcs
  obtain⟨b',c,e,hg,hheap,hsz,hr⟩:=R.heap.objs id _ hh
  rw[hb]at hg
  obtain rfl:b=b':=by simpa using hg
  have hal:ds.length=cs.length - base:=by rw[al];simp
  obtain⟨q,hq⟩:∃q,q=base+(kk*sz+o):=⟨_,rfl⟩
  rw[←hq]at hv
  have hget:∀(j:Nat) u,(c.extract q (q+i.size))[j]?=some u→c[q+j]?=some u∧j<i.size:=by
   intro j u hu
   have hlt:=(Array.getElem?_eq_some_iff.1 hu).1
   simp at hlt
   refine⟨?_,by omega⟩
   rw[←hu,Array.getElem?_extract]
   rw[if_pos (by omega)]
  refine⟨b,q,c.extract q (q+i.size),hv,by simp;omega,fun j u hu=>?_,fun j x u hx' hu=>?_⟩
  ·rw[cell_of_row w b (q+j) c e (0,0) hheap]
   exact (hget j u hu).1
  ·obtain⟨h1',h2'⟩:=hget j u hu
   rw[hrc]at hx'
   simp only[List.getElem?_map,Option.map_eq_some_iff]at hx'
   obtain⟨d,hd,rfl⟩:=hx'
   rw[List.getElem?_take_of_lt h2',List.getElem?_drop,List.getElem?_take_of_lt (by omega),List.getElem?_drop]at hd
   have hlt:=(List.getElem?_eq_some_iff.1 hd).1
   obtain⟨x0,hcj⟩:∃x0,cs[q+j]?=some x0:=⟨_,List.getElem?_eq_getElem (by omega)⟩
   have hdr:(cs.drop base)[kk*sz+(o+j)]?=some x0:=by
    rw[List.getElem?_drop,←hcj]
    congr 1
    omega
   exact ar _ _ _ _ hd hdr (hr (q+j) _ u hcj h1')
 ·rename_i id
  obtain⟨hsz,hk⟩:=req_iff.1 hk2
  have hsz:=Nat.eq_of_beq_eq_true hsz
  refine⟨_,hk,rfl,fin _ _ (by simp[hsz]) fun F σs σh g a w u R hv _=>?_⟩
  obtain⟨b,u0,h1,h2,h3,h4⟩:=hv
  refine⟨b,0,#[u0],h1,by simp[hsz],fun j u hu=>?_,fun j c u hc hu=>?_⟩
  ·cases j with
   | zero=>simp at hu;subst hu;exact h2
   | succ j=>simp at hu
  ·cases j with
   | zero=>simp at hc hu;subst hc;subst hu;exact h4
   | succ j=>simp at hc
 ·exact hk2.elim
theorem ok_load (hti:TIok C.P ti) (h1:TIone ti) (t:TypeId) (x:Operand) (ho:o.op= .load t x) (hk:outLoad ti t (opd ti s 0 x) h k):∃out,k out∧OKop C o fresh s h out:=by
 obtain⟨⟨val,rd,wr⟩,hko,hwr,H⟩:=load_core (C:=C) hti h1 t _ hk
 simp only[]at hwr
 subst hwr
 refine⟨_,hko,okop_value fun F σs σh g a w R hs hrd=>?_⟩
 have hx:=opd_rel ti 0 x R (s:=s) (fun k hk=>hs k (by subst hk;simp[ho,Op.operands]))
 obtain⟨v,hv,hr⟩:=H F σs σh g a w _ R hx hrd
 exact⟨v,by simp only[execOp,ho];exact run_value hv,hr⟩
theorem addr_add (b q n:Nat):(⟨b,q,none⟩:Addr).add n=⟨b,q+n,none⟩:=by unfold Addr.add;split<;>simp_all
theorem ok_store (hti:TIok C.P ti) (t:TypeId) (x y:Operand) (ho:o.op= .store t x y) (hd:o.dst=none) (hk:outStore ti t (opd ti s 0 x) (opd ti s t y) h k):∃out,k out∧OKop C o fresh s h out:=by
 unfold outStore at hk
 obtain⟨i,hi,hk⟩:=withT_iff.1 hk
 obtain⟨yv,hyv,hk⟩:=withV_iff.1 hk
 have main:∀(id:Id) (q:Nat) (cs:List CV),h id=some (.cells cs)→(∀{w:World} {Z:Zone} {g:Ghost} {σh:Heap} {u:Value},RelAV w Z g σh (opd ti s 0 x) u→(∃b,g id= .pointer (some ⟨b,0,none⟩))∧u=ptrAt (g id) q)→q+i.size≤cs.length→yv.cells.length=i.size→
   k ⟨.u,[id],[(id,.cells (cs.take q++yv.cells++cs.drop (q+i.size)))]⟩→∃out,k out∧OKop C o fresh s h out:=by
  intro id q cs hcs hxr hle hlen hk
  refine⟨_,hk,?_⟩
  rintro F σs σh a w Q ⟨g,R⟩ hs hrd hF _
  have hx:=opd_rel ti 0 x R (s:=s) (fun k hk=>hs k (by subst hk;simp[ho,Op.operands]))
  have hy:=opd_rel ti t y R (s:=s) (fun k hk=>hs k (by subst hk;simp[ho,Op.operands]))
  replace hx:=hxr hx
  rw[hyv]at hy
  obtain⟨⟨b,hb⟩,hx⟩:=hx
  rw[hb]at hx
  obtain⟨hy1,hy2⟩:=RelV1.cells hy
  have hh:σh id=some (.cells cs):=(hrd id (by simp)).trans hcs
  obtain⟨b',c,e,hg,hheap,hsz,hr⟩:=R.heap.objs id _ hh
  rw[hb]at hg
  obtain rfl:b=b':=by simpa using hg
  have hone:∀v∈(a.eval y).cells.toList,v.oneCell'=true:=by
   intro v hv
   obtain⟨j,hj⟩:=List.mem_iff_getElem?.1 hv
   have hlt:=(List.getElem?_eq_some_iff.1 hj).1
   simp at hlt hj
   exact RelC.oneCell (hy2 j yv.cells[j] v (by simp) (by simpa using hj))
  have hst:=run_storeCells_at C.P b q e (a.eval y).cells.toList 0 c w hheap (by simp;omega) hone
  simp only[Nat.add_zero,Array.length_toList]at hst
  obtain⟨_,ii,hii,hsi,_⟩:=hti t i hi
  have hrun:(execOp a.eval o).run C.P w= .ok .skip (w.setRow b (c.toList.take q++(a.eval y).cells.toList++c.toList.drop (q+(a.eval y).cells.size)).toArray):=by
   simp only[execOp,ho,hx,ptrAt,Instr.storeAt,Instr.sureAddr,storeVar,sizeOf,typeInfo,Sem.run_bind,run_program,Result.andThen_ok,Sem.run_pure,hii,hsi,hy1,hlen]
   simp[hst]
   rw[hy1,hlen]
  unfold Oper.wp
  rw[hrun]
  have R':=R.store (cs':=cs.take q++yv.cells++cs.drop (q+i.size)) (c':=(c.toList.take q++(a.eval y).cells.toList++c.toList.drop (q+(a.eval y).cells.size)).toArray) hh hb hheap
   (by simp;omega) (fun j z u hz hu=>?_)
  ·refine⟨g,?_⟩
   rw[hd]
   exact (R'.put (dst:=none) (v:=.u) (u:=undef) (fun d e=>by cases e) trivial).free_mono (fun n hn=>hn.1)
  ·simp only[List.getElem?_toArray,List.append_assoc]at hu hz
   by_cases h1:j<q
   ·rw[List.getElem?_append_left (by simp;omega),List.getElem?_take,if_pos h1]at hu hz
    exact hr j z u hz (by simpa using hu)
   ·rw[List.getElem?_append_right (by simp;omega)]at hu hz
    have e1:(cs.take q).length=q:=by simp;omega
    have e2:(c.toList.take q).length=q:=by simp;omega
    rw[e1]at hz
    rw[e2]at hu
    by_cases h2:j - q<i.size
    ·rw[List.getElem?_append_left (by omega)]at hz
     rw[List.getElem?_append_left (by simp;omega)]at hu
     exact hy2 (j - q) z u hz (by simpa using hu)
    ·rw[List.getElem?_append_right (by omega),List.getElem?_drop]at hz
     rw[List.getElem?_append_right (by simp;omega),List.getElem?_drop]at hu
     simp only[Array.length_toList]at hu
     refine hr _ z u hz ?_
     rw[hy1]at hu
     rw[←hlen]
     simpa [hlen] using hu
 split at hk
 ·rename_i id q hop
  split at hk
  ·rename_i cs hcs
   obtain⟨hle,hk⟩:=req_iff.1 hk
   obtain⟨hlen,hk⟩:=req_iff.1 hk
   exact main id q cs hcs (fun hr=>by rw[hop]at hr;exact hr) (by simpa using hle) (by simpa using hlen) hk
  ·exact hk.elim
 ·rename_i id base sz kk oo hop
  split at hk
  ·rename_i cs hcs
   obtain⟨hlen,hk⟩:=req_iff.1 hk
   obtain⟨hle,cs',rfl,hk⟩:=hk
   exact main id _ cs hcs (fun hr=>by rw[hop]at hr;exact hr) hle (by simpa using hlen) hk
  ·exact hk.elim
 ·exact hk.elim
end
end Go.AM
namespace Go.AM
open Go Go.RowKit
section
variable {C:Cx}{ti:Types}{o:Oper}{fresh:Nat}{s:Slots}{h:Heap}{k:Out→Prop}
theorem tsize {P:Program}(hti:TIok P ti) {t:TypeId}{i:TI}(hi:ti t=some i) (w:World):(sizeOf t).run P w= .ok i.size w:=by
 obtain⟨_,ii,hii,hsi,_⟩:=hti t i hi
 simp[sizeOf,typeInfo,hii,hsi]
theorem tund {P:Program}(hti:TIok P ti) {t:TypeId}{i:TI}(hi:ti t=some i) (w:World):(underlying t).run P w= .ok i.desc w:=
 run_underlying (hti t i hi).1 w
theorem ok_field (hti:TIok C.P ti) (t:TypeId) (x:Operand) (f:Nat) (ho:o.op= .fieldAddr t x f) (hk:outField ti t (opd ti s 0 x) f k):∃out,k out∧OKop C o fresh s h out:=by
 unfold outField at hk
 obtain⟨i,hi,hk⟩:=withT_iff.1 hk
 split at hk
 ·rename_i fs hfs
  split at hk
  ·rename_i fd hfd
   obtain⟨j,hj,hk⟩:=withT_iff.1 hk
   obtain⟨hpos,hk⟩:=req_iff.1 hk
   have hpos:j.size≠0:=by
    have:0<j.size:=by simpa using hpos
    omega
   have hrun:∀(b q:Nat) (a:Act) (w:World),a.eval x= .pointer (some ⟨b,q,none⟩)→
     (execOp a.eval o).run C.P w= .ok (.value (.pointer (some ⟨b,q+fd.offset,none⟩))) w:=by
    intro b q a w he
    have h1:=tund hti hi w
    rw[hfs]at h1
    have h2:=tsize hti hj w
    simp only[execOp,ho,he]
    refine run_value ?_
    simp[Instr.fieldAt,h1,hfd,Instr.sureAddr,fieldPlace,h2,hpos,addr_add]
   have hx:=fun (F:Nat→Prop) (σs:Slots) (σh:Heap) (g:Ghost) (a:Act) (w:World) (R:RelS C F σs σh g a w) (hs:∀t,Operand.tmp t∈o.op.operands.toList→σs t=s t)=>
    opd_rel ti 0 x R (s:=s) (fun k hk=>hs k (by subst hk;simp[ho,Op.operands]))
   split at hk
   ·rename_i id q hop
    refine⟨_,hk,okop_value fun F σs σh g a w R hs _=>?_⟩
    have hv:=hx F σs σh g a w R hs
    rw[hop]at hv
    obtain⟨⟨b,hb⟩,hv⟩:=hv
    rw[hb]at hv
    exact⟨_,hrun b q a w hv,⟨b,hb⟩,by rw[hb];rfl⟩
   ·rename_i ag sz d hop
    refine⟨_,hk,okop_value fun F σs σh g a w R hs _=>?_⟩
    have hv:=hx F σs σh g a w R hs
    rw[hop]at hv
    obtain⟨hf,b,q,hv,U,hU⟩:=hv
    refine⟨_,hrun b q a w hv,fun c hc=>hf.2.2 c (List.mem_of_mem_drop hc),b,_,rfl,fun n=>U (fd.offset+n),fun n c hc=>?_⟩
    rw[List.getElem?_drop]at hc
    have:=hU _ c hc
    rw[show q+fd.offset+n=q+(fd.offset+n)from by omega]
    exact this
   ·rename_i cs hop
    refine⟨_,hk,okop_value fun F σs σh g a w R hs _=>?_⟩
    have hv:=hx F σs σh g a w R hs
    rw[hop]at hv
    obtain⟨hf,b,q,hv,U,hU⟩:=hv
    refine⟨_,hrun b q a w hv,fun c hc=>hf c (List.mem_of_mem_drop hc),b,_,rfl,fun n=>U (fd.offset+n),fun n c hc=>?_⟩
    rw[List.getElem?_drop]at hc
    have:=hU _ c hc
    rw[show q+fd.offset+n=q+(fd.offset+n)from by omega]
    exact this
   ·rename_i id bs sz kk q hop
    refine⟨_,hk,okop_value fun F σs σh g a w R hs _=>?_⟩
    have hv:=hx F σs σh g a w R hs
    rw[hop]at hv
    obtain⟨⟨b,hb⟩,hv⟩:=hv
    rw[hb]at hv
    refine⟨_,hrun b _ a w hv,⟨b,hb⟩,?_⟩
    rw[hb]
    show Value.pointer (some ⟨b,bs+(kk*sz+q)+fd.offset,none⟩)=Value.pointer (some ⟨b,bs+(kk*sz+(q+fd.offset)),none⟩)
    rw[show bs+(kk*sz+q)+fd.offset=bs+(kk*sz+(q+fd.offset))from by omega]
   ·exact hk.elim
  ·exact hk.elim
 ·exact hk.elim
theorem relList {w:World}{Z:Zone}{ag:Bool}{sz:Nat}{rows:List D}{v:Value}(r:RelD w Z (.list ag sz rows) v):
  ∃a cap,v= .slice a rows.length cap∧rows.length≤cap∧cap≤maxLen∧(∀r∈rows,r.fits ag sz)∧
   ∃b o,(rows≠[]→a=some ⟨b,o,none⟩)∧∃U:Nat→Nat→Value,∀(i:Nat) r (j:Nat) c,rows[i]?=some r→r.cells[j]?=some c→
    w.cell? ⟨b,o+(i*sz+j),none⟩=some (U i j)∧¬Z b (o+(i*sz+j))∧RelD w Z c (U i j):=by
 cases r with
 | list ag sz rows a cap b o U hcap hmax hfit ha hc hr=>
  exact⟨a,cap,rfl,hcap,hmax,hfit,b,o,ha,U,fun i r j c h1 h2=>⟨(hc i r j c h1 h2).1,(hc i r j c h1 h2).2,hr i r j c h1 h2⟩⟩
theorem ok_index (hti:TIok C.P ti) (t:TypeId) (x y:Operand) (ho:o.op= .indexAddr t x y) (hk:outIndex ti t (opd ti s t x) (opd ti s 3 y) k):∃out,k out∧OKop C o fresh s h out:=by
 unfold outIndex at hk
 obtain⟨q,n,hyv,hk⟩:=withI_iff.1 hk
 obtain⟨i,hi,hk⟩:=withT_iff.1 hk
 have hx:=fun (F:Nat→Prop) (σs:Slots) (σh:Heap) (g:Ghost) (a:Act) (w:World) (R:RelS C F σs σh g a w) (hs:∀t,Operand.tmp t∈o.op.operands.toList→σs t=s t)=>
  And.intro (opd_rel ti t x R (s:=s) (fun k hk=>hs k (by subst hk;simp[ho,Op.operands]))) (opd_rel ti 3 y R (s:=s) (fun k hk=>hs k (by subst hk;simp[ho,Op.operands])))
 split at hk
 ·rename_i e hdesc
  obtain⟨j,hj,hk⟩:=withT_iff.1 hk
  split at hk
  ·rename_i id len hop
   obtain⟨p,⟨hnp,hp⟩,hk⟩:=hk
   refine⟨_,hk,okop_value fun F σs σh g a w R hs _=>?_⟩
   subst hnp
   obtain⟨hv,hn⟩:=hx F σs σh g a w R hs
   rw[hyv]at hn
   have hn:=relI hn
   rw[hop]at hv
   obtain⟨⟨b,hb⟩,hv⟩:=hv
   rw[hb]at hv
   have hv:a.eval x= .slice (some ⟨b,0,none⟩) len len:=hv
   have h1:=tund hti hi w
   rw[hdesc]at h1
   have h2:=tsize hti hj w
   refine⟨.pointer (some ⟨b,p*j.size,none⟩),?_,⟨⟨b,hb⟩,by rw[hb];simp[ptrAt]⟩⟩
   have hp':(p:Int)<(len:Int):=Int.ofNat_lt.2 hp
   simp only[execOp,ho]
   refine run_value ?_
   simp[Instr.indexAt,asIntOf,h1,h2,hv,hn,hp,addr_add,Instr.sureAddr]
  obtain⟨ag,sz,rows,hrel,hk⟩:=withL_iff hk
  obtain⟨hag,hk⟩:=req_iff.1 hk
  obtain⟨hsz,hk⟩:=req_iff.1 hk
  obtain⟨r,h0,hr,hk⟩:=hk
  have hsz:sz=j.size:=by simpa using hsz
  subst hsz
  refine⟨_,hk,okop_value fun F σs σh g a w R hs _=>?_⟩
  obtain⟨hv,hn⟩:=hx F σs σh g a w R hs
  rw[hyv]at hn
  have hn:=relI hn
  obtain⟨A,cap,hv,hcap,hmax,hfit,b,o',hA,U,hU⟩:=relList (hrel hv)
  have hlt:n.toNat<rows.length:=(List.getElem?_eq_some_iff.1 hr).1
  have hA:=hA (by intro e;rw[e]at hlt;simp at hlt)
  subst hA
  refine⟨.pointer (some ⟨b,o'+n.toNat*j.size,none⟩),?_,hfit r (List.mem_of_getElem? hr),b,_,rfl,fun c=>U n.toNat c,fun c z hz=>?_⟩
  ·have h1:=tund hti hi w
   rw[hdesc]at h1
   have h2:=tsize hti hj w
   simp only[execOp,ho,hv,hn]
   refine run_value ?_
   have h3:0≤n∧n<(rows.length:Int):=by omega
   simp[Instr.indexAt,asIntOf,h1,h2,h3,addr_add]
  ·have:=hU n.toNat r c z hr hz
   rw[show o'+n.toNat*j.size+c=o'+(n.toNat*j.size+c)from by omega]
   exact this
 ·rename_i len e hdesc
  obtain⟨j,hj,hk⟩:=withT_iff.1 hk
  split at hk
  ·rename_i id q' hop
   obtain⟨h0,hl,c,hk⟩:=hk
   cases c with
   | false=>
    refine⟨_,hk,okop_value fun F σs σh g a w R hs _=>?_⟩
    obtain⟨hv,hn⟩:=hx F σs σh g a w R hs
    rw[hyv]at hn
    have hn:=relI hn
    rw[hop]at hv
    obtain⟨⟨b,hb⟩,hv⟩:=hv
    rw[hb]at hv
    refine⟨.pointer (some ⟨b,q'+n.toNat*j.size,none⟩),?_,⟨b,hb⟩,by rw[hb];rfl⟩
    have h1:=tund hti hi w
    rw[hdesc]at h1
    have h2:=tsize hti hj w
    simp only[execOp,ho,hv,hn,ptrAt]
    refine run_value ?_
    simp[Instr.indexAt,asIntOf,h1,h2,h0,hl,addr_add,Instr.sureAddr]
   | true=>
   refine⟨_,hk,okop_value fun F σs σh g a w R hs _=>?_⟩
   obtain⟨hv,hn⟩:=hx F σs σh g a w R hs
   rw[hyv]at hn
   have hn:=relI hn
   rw[hop]at hv
   obtain⟨⟨b,hb⟩,hv⟩:=hv
   rw[hb]at hv
   refine⟨.pointer (some ⟨b,q'+n.toNat*j.size,none⟩),?_,⟨b,hb⟩,by rw[hb];rfl⟩
   have h1:=tund hti hi w
   rw[hdesc]at h1
   have h2:=tsize hti hj w
   simp only[execOp,ho,hv,hn,ptrAt]
   refine run_value ?_
   simp[Instr.indexAt,asIntOf,h1,h2,h0,hl,addr_add,Instr.sureAddr]
  ·exact hk.elim
 ·exact hk.elim
theorem ok_len (hti:TIok C.P ti) (t:TypeId) (x:Operand) (ho:o.op= .call {callee:=.builtin .len,args:=#[x],argTypes:=#[t]}) (hk:outLen C.M ti t (opd ti s t x) k):∃out,k out∧OKop C o fresh s h out:=by
 unfold outLen at hk
 obtain⟨i,hi,hk⟩:=withT_iff.1 hk
 have hx:=fun (F:Nat→Prop) (σs:Slots) (σh:Heap) (g:Ghost) (a:Act) (w:World) (R:RelS C F σs σh g a w) (hs:∀t,Operand.tmp t∈o.op.operands.toList→σs t=s t)=>
  opd_rel ti t x R (s:=s) (fun k hk=>hs k (by subst hk;simp[ho,Op.operands,Call.operands]))
 split at hk
 ·rename_i e hdesc
  split at hk
  ·rename_i id n hop
   obtain⟨z,hz,hk⟩:=hk
   refine⟨_,hk,okop_value fun F σs σh g a w R hs _=>?_⟩
   have hv:=hx F σs σh g a w R hs
   rw[hop]at hv
   obtain⟨⟨b,hb⟩,hv⟩:=hv
   rw[hb]at hv
   have hv:a.eval x= .slice (some ⟨b,0,none⟩) n n:=hv
   refine⟨.int .i64 z,?_,.int _ _⟩
   have h1:=tund hti hi w
   rw[hdesc]at h1
   simp[execOp,ho,resolve,invoke,builtin,Builtin.len_,h1,hv,goInt,hz]
  obtain⟨ag,sz,rows,hrel,z,hz,hk⟩:=withL_iff hk
  refine⟨_,hk,okop_value fun F σs σh g a w R hs _=>?_⟩
  obtain⟨A,cap,hv,_⟩:=relList (hrel (hx F σs σh g a w R hs))
  rw[←hz,C.M.lenI_eq]
  refine⟨.int .i64 rows.length,?_,.int _ _⟩
  have h1:=tund hti hi w
  rw[hdesc]at h1
  simp[execOp,ho,resolve,invoke,builtin,Builtin.len_,h1,hv,goInt]
 ·rename_i hdesc
  split at hk
  ·rename_i b hop
   obtain⟨z,hz,hk⟩:=hk
   refine⟨_,hk,okop_value fun F σs σh g a w R hs _=>?_⟩
   have hv:=hx F σs σh g a w R hs
   rw[hop]at hv
   have hv:=relSt hv
   rw[←hz,C.M.szI_eq]
   refine⟨.int .i64 b.size,?_,.int _ _⟩
   have h1:=tund hti hi w
   rw[hdesc]at h1
   simp[execOp,ho,resolve,invoke,builtin,Builtin.len_,h1,hv,goInt]
  ·exact hk.elim
 ·rename_i n e hdesc
  refine⟨_,hk,okop_value fun F σs σh g a w R hs _=>?_⟩
  refine⟨.int .i64 n,?_,.int _ _⟩
  have h1:=tund hti hi w
  rw[hdesc]at h1
  simp[execOp,ho,resolve,invoke,builtin,Builtin.len_,h1,goInt]
 ·exact hk.elim
theorem notB_eq (b:Bool):notB b=!b:=by cases b<;>rfl
theorem eqvB_eq (a b:Bool):eqvB a b=(a==b):=by cases a<;>cases b<;>rfl
theorem ok_un (op:UnOp) (t:TypeId) (x:Operand) (ho:o.op= .unOp op t x) (hk:outUn op (opd ti s o.type x) k):∃out,k out∧OKop C o fresh s h out:=by
 unfold outUn at hk
 have hx:=fun (F:Nat→Prop) (σs:Slots) (σh:Heap) (g:Ghost) (a:Act) (w:World) (R:RelS C F σs σh g a w) (hs:∀t,Operand.tmp t∈o.op.operands.toList→σs t=s t)=>
  opd_rel ti o.type x R (s:=s) (fun k hk=>hs k (by subst hk;simp[ho,Op.operands]))
 split at hk
 ·rename_i b hop
  obtain⟨q,rfl,hk⟩:=hk
  refine⟨_,hk,okop_value fun F σs σh g a w R hs _=>?_⟩
  have hv:=hx F σs σh g a w R hs
  rw[hop]at hv
  have hv:=relB hv
  rw[notB_eq]
  exact⟨.bool !b,by simp[execOp,ho,hv,Op.unary],.bool _⟩
 ·rename_i q n hop
  obtain⟨z,rfl,hk⟩:=hk
  refine⟨_,hk,okop_value fun F σs σh g a w R hs _=>?_⟩
  have hv:=hx F σs σh g a w R hs
  rw[hop]at hv
  have hv:=relI hv
  exact⟨.int q (q.wrap (0 - n)),by simp[execOp,ho,hv,Op.unary,Op.intArith],.int _ _⟩
 ·exact hk.elim
theorem ok_nilCheck (x:Operand) (ho:o.op= .nilCheck x) {i:Id}{q:Nat}(hop:opd ti s 0 x= .v (.c (.ptr i q))):OKop C o fresh s h ⟨.v (.c (.ptr i q)),[],[]⟩:=by
 refine okop_value fun F σs σh g a w R hs _=>?_
 have hv:=opd_rel ti 0 x R (s:=s) (fun k hk=>hs k (by subst hk;simp[ho,Op.operands]))
 rw[hop]at hv
 have hv':=hv
 obtain⟨⟨b,hb⟩,hv⟩:=hv
 rw[hb]at hv
 exact⟨a.eval x,by simp[execOp,ho,hv,ptrAt],hv'⟩
theorem caps_rel {w:World}{Z:Zone}{g:Ghost}{h:Heap}{xs:List AV}{vs:List Value}{l:List Id}(he:caps xs=some l) (hl:vs.length=xs.length)
  (hr:∀(j:Nat) x v,xs[j]?=some x→vs[j]?=some v→RelAV w Z g h x v):vs=l.map (fun i=>ptrAt (g i) 0)∧∀i∈l,∃b,g i= .pointer (some ⟨b,0,none⟩):=by
 induction xs generalizing vs l with
 | nil=>
  simp[caps]at he
  subst he
  match vs,hl with
  | [],_=>exact⟨rfl,by simp⟩
 | cons x xs ih=>
  match vs,hl with
  | v::vs,hl=>
   unfold caps at he
   split at he
   ·rename_i e;simp at e
   ·rename_i i r e
    simp at e
    obtain⟨rfl,rfl⟩:=e
    split at he
    ·rename_i l' hl'
     simp at he
     subst he
     obtain⟨h1,h2⟩:=ih hl' (by simpa using hl) (fun j x v hx hv=>hr (j+1) x v (by simpa using hx) (by simpa using hv))
     obtain⟨hb,hv⟩:=hr 0 _ v rfl rfl
     refine⟨by rw[List.map_cons,←h1,hv],fun i' hi=>?_⟩
     rcases List.mem_cons.1 hi with rfl | hi
     ·exact hb
     ·exact h2 i' hi
    ·simp at he
   ·simp at he
theorem ok_makeFunc (fn:Fn) (first captured:Array Operand) (ho:o.op= .makeFunc fn first captured) {f:Nat}(hf:fn= .func f) (hfi:first.toList=[]) {l:List Id}
  (hl:caps (captured.toList.map (opd ti s 0))=some l):OKop C o fresh s h ⟨.v (.c (.fn f l)),[],[]⟩:=by
 refine okop_value fun F σs σh g a w R hs _=>?_
 have hfi:first=#[]:=by simpa using hfi
 subst hfi
 have:=caps_rel (w:=w) (Z:=zor (zone g σh) C.X) (g:=g) (h:=σh) (vs:=captured.toList.map a.eval) hl (by simp) (fun j x v hx hv=>by
  simp only[List.getElem?_map,Option.map_eq_some_iff]at hx hv
  obtain⟨p,hp,rfl⟩:=hx
  obtain⟨p',hp',rfl⟩:=hv
  rw[hp]at hp'
  obtain rfl:p=p':=by simpa using hp'
  refine opd_rel ti 0 p R (s:=s) (fun k hk=>hs k ?_)
  subst hk
  have:=List.mem_of_getElem? hp
  simp only[ho,Op.operands]
  simpa using this)
 refine⟨.func (.func f) #[] (captured.map a.eval),by simp[execOp,ho,hf,Instr.makeFunc],?_,this.2⟩
 rw[←this.1]
 apply congrArg
 apply Array.ext'
 simp
theorem ok_makeBm (fn:Fn) (first captured:Array Operand) (ho:o.op= .makeFunc fn first captured) {f:Nat}(hf:fn= .func f) {x:Operand}(hfi:first.toList=[x]) (hl:captured.toList=[]) {i:Id}
  (hx:opd ti s 0 x= .v (.c (.ptr i 0))):OKop C o fresh s h ⟨.v (.c (.bm f i)),[],[]⟩:=by
 refine okop_value fun F σs σh g a w R hs _=>?_
 have hfi:first=#[x]:=by
  apply Array.ext';simpa using hfi
 have hl:captured=#[]:=by simpa using hl
 subst hfi
 subst hl
 have r:=opd_rel ti 0 x R (s:=s) (fun k hk=>hs k (by subst hk;simp[ho,Op.operands]))
 rw[hx]at r
 obtain⟨⟨b,hb⟩,hv⟩:=r
 refine⟨.func (.func f) #[a.eval x] #[],by simp[execOp,ho,hf,Instr.makeFunc],⟨b,hb⟩,?_⟩
 rw[hv]
theorem run_equalD_bool {P:Program}{t:TypeId}(h:P.underlying t=some .bool) (a b:Bool) (w:World) (d:Nat):(Op.equalIn (d+1) t (.bool a) (.bool b)).run P w= .ok (a==b) w:=by
 simp[Op.equalIn,run_underlying h w]
theorem run_equalD_pn {P:Program}{t e:TypeId}(h:P.underlying t=some (.pointer e)) (a:Option Addr) (w:World) (d:Nat):(Op.equalIn (d+1) t (.pointer a) (.pointer none)).run P w= .ok a.isNone w:=by
 cases a<;>simp[Op.equalIn,run_underlying h w]
theorem run_equalD_mn {P:Program}{t e k:TypeId}(h:P.underlying t=some (.map k e)) (a:Option Nat) (w:World) (d:Nat):(Op.equalIn (d+1) t (.map a) (.map none)).run P w= .ok a.isNone w:=by
 cases a<;>simp[Op.equalIn,run_underlying h w]
theorem run_equal_bool {P:Program}{t:TypeId}(h:P.underlying t=some .bool) (a b:Bool) (w:World):(Op.equal t (.bool a) (.bool b)).run P w= .ok (a==b) w:=
 run_equalD_bool h a b w 9999
theorem run_equal_pn {P:Program}{t e:TypeId}(h:P.underlying t=some (.pointer e)) (a:Option Addr) (w:World):(Op.equal t (.pointer a) (.pointer none)).run P w= .ok a.isNone w:=
 run_equalD_pn h a w 9999
theorem run_equal_mn {P:Program}{t e k:TypeId}(h:P.underlying t=some (.map k e)) (a:Option Nat) (w:World):(Op.equal t (.map a) (.map none)).run P w= .ok a.isNone w:=
 run_equalD_mn h a w 9999
theorem ifNil_some {u v:Value}{q:Bool}(h:ifNil u v=some q):(u= .nilIface∧v= .nilIface∧q=true)∨∃t x,u= .iface t x∧v= .nilIface∧q=false:=by
 unfold ifNil at h
 split at h
 ·cases h;exact .inl ⟨rfl,rfl,rfl⟩
 ·cases h;exact .inr ⟨_,_,rfl,rfl,rfl⟩
 ·cases h
theorem run_equalD_if {P:Program}{t:TypeId}{want:Array (String×TypeId)}(h:P.underlying t=some (.interface want)) {u v:Value}{q:Bool}(hq:ifNil u v=some q) (w:World) (n:Nat):(Op.equalIn (n+1) t u v).run P w= .ok q w:=by
 unfold ifNil at hq
 split at hq
 ·cases hq;simp[Op.equalIn,run_underlying h]
 ·cases hq;simp[Op.equalIn,run_underlying h]
 ·cases hq
theorem run_guard_if {P:Program}{t:TypeId}{want:Array (String×TypeId)}(h:P.underlying t=some (.interface want)) (he:want.isEmpty=true) (w:World) (n:Nat):(Op.eqGuardIn (n+1) t .nilIface .nilIface).run P w= .ok false w:=by
 simp[Op.eqGuardIn,run_underlying h,he]
theorem run_equal_if {P:Program}{t:TypeId}{want:Array (String×TypeId)}(h:P.underlying t=some (.interface want)) {u v:Value}{q:Bool}(hq:ifNil u v=some q) (w:World):(Op.equal t u v).run P w= .ok q w:=
 run_equalD_if h hq w 9999
theorem ok_bin (hti:TIok C.P ti) (op:BinOp) (t t':TypeId) (x y:Operand) (ho:o.op= .binOp op t x y t') (hk:outBin C.M ti op t (opd ti s t x) (opd ti s t y) k):∃out,k out∧OKop C o fresh s h out:=by
  have hx:=fun (F:Nat→Prop) (σs:Slots) (σh:Heap) (g:Ghost) (a:Act) (w:World) (R:RelS C F σs σh g a w) (hs:∀t,Operand.tmp t∈o.op.operands.toList→σs t=s t)=>
    And.intro (opd_rel ti t x R (s:=s) (fun k hk=>hs k (by subst hk;simp[ho,Op.operands]))) (opd_rel ti t y R (s:=s) (fun k hk=>hs k (by subst hk;simp[ho,Op.operands])))
  unfold outBin at hk
  simp only[]at hk
  split at hk
  · rename_i q n q' m hop hop'
    obtain⟨hq,hk2⟩:=req_iff.1 hk
    clear hk
    obtain rfl:q=q':=by simpa using hq
    have fin:∀(d:D) (v:Value),(∀(a:Act) (w:World),a.eval x= .int q n→a.eval y= .int q m→(execOp a.eval o).run C.P w= .ok (.value v) w)→(∀w Z,RelD w Z d v)→OKop C o fresh s h ⟨.v (.d d),[],[]⟩:=by
      intro d v H1 H2
      refine okop_value fun F σs σh g a w R hs _=>?_
      obtain⟨h1,h2⟩:=hx F σs σh g a w R hs
      rw[hop]at h1
      rw[hop']at h2
      exact⟨v,H1 a w (relI h1) (relI h2),H2 _ _⟩
    unfold intOp at hk2
    split at hk2
    all_goals first
      | exact hk2.elim
      | (obtain⟨z,hz,hk3⟩:=hk2
         subst hz
         exact⟨_,hk3,fin _ _ (fun a w h1 h2=>by (simp[execOp,ho,h1,h2,eqGuard,binOp,Op.intArith];try rfl)) (fun _ _=>.int _ _)⟩)
      | (obtain⟨z,hne,hz,hk3⟩:=hk2
         subst hz
         exact⟨_,hk3,fin _ _ (fun a w h1 h2=>by (simp[execOp,ho,h1,h2,eqGuard,binOp,Op.intDiv,hne];try rfl)) (fun _ _=>.int _ _)⟩)
      | exact⟨_,(C.M.split_iff _ _).1 hk2,by
          simp only[notB_eq,C.M.eqI_eq,C.M.ltI_eq,C.M.leI_eq]
          exact fin _ _ (fun a w h1 h2=>by (simp[execOp,ho,h1,h2,eqGuard,binOp,Op.intCmp];try rfl)) (fun _ _=>.bool _)⟩
  · rename_i b b' hop hop'
    have fin:∀(d:D) (v:Value),(∀(a:Act) (w:World),a.eval x= .string b→a.eval y= .string b'→(execOp a.eval o).run C.P w= .ok (.value v) w)→(∀w Z,RelD w Z d v)→OKop C o fresh s h ⟨.v (.d d),[],[]⟩:=by
      intro d v H1 H2
      refine okop_value fun F σs σh g a w R hs _=>?_
      obtain⟨h1,h2⟩:=hx F σs σh g a w R hs
      rw[hop]at h1
      rw[hop']at h2
      exact⟨v,H1 a w (relSt h1) (relSt h2),H2 _ _⟩
    unfold strOp at hk
    split at hk
    · obtain⟨cc,rfl,hsz,hk⟩:=hk
      refine⟨_,hk,fin _ (.string (b++b')) (fun a w h1 h2=>?_) (fun _ _=>.str _)⟩
      have:¬((b.size:Int)+b'.size>IntKind.i64.max):=by simpa using hsz
      simp[execOp,ho,h1,h2,eqGuard,binOp,Op.stringOp]
      simp at this
      omega
    · exact⟨_,(C.M.split_iff _ _).1 hk,by
          simp only[notB_eq,C.M.eqS_eq,C.M.ltS_eq]
          exact fin _ _ (fun a w h1 h2=>by (simp[execOp,ho,h1,h2,eqGuard,binOp,Op.stringOp];try rfl)) (fun _ _=>.bool _)⟩
    · exact⟨_,(C.M.split_iff _ _).1 hk,by
          simp only[notB_eq,C.M.eqS_eq,C.M.ltS_eq]
          exact fin _ _ (fun a w h1 h2=>by (simp[execOp,ho,h1,h2,eqGuard,binOp,Op.stringOp];try rfl)) (fun _ _=>.bool _)⟩
    · exact⟨_,(C.M.split_iff _ _).1 hk,by
          simp only[notB_eq,C.M.eqS_eq,C.M.ltS_eq]
          exact fin _ _ (fun a w h1 h2=>by (simp[execOp,ho,h1,h2,eqGuard,binOp,Op.stringOp];try rfl)) (fun _ _=>.bool _)⟩
    · exact hk.elim
  all_goals first
    | exact hk.elim
    | skip
  · rename_i b b' hop hop'
    obtain⟨i,hi,hk⟩:=withT_iff.1 hk
    split at hk
    · rename_i hdesc
      have hu:=(hti t i hi).1
      rw[hdesc]at hu
      split at hk
      · obtain⟨q,rfl,hk⟩:=hk
        refine⟨_,hk,okop_value fun F σs σh g a w R hs _=>?_⟩
        obtain⟨h1,h2⟩:=hx F σs σh g a w R hs
        rw[hop]at h1
        rw[hop']at h2
        rw[eqvB_eq]
        exact⟨.bool (b==b'),by simp[execOp,ho,relB h1,relB h2,eqGuard,binOp,run_equal_bool hu],.bool _⟩
      · obtain⟨q,rfl,hk⟩:=hk
        refine⟨_,hk,okop_value fun F σs σh g a w R hs _=>?_⟩
        obtain⟨h1,h2⟩:=hx F σs σh g a w R hs
        rw[hop]at h1
        rw[hop']at h2
        rw[notB_eq,eqvB_eq]
        exact⟨.bool (!(b==b')),by simp[execOp,ho,relB h1,relB h2,eqGuard,binOp,run_equal_bool hu],.bool _⟩
      · exact hk.elim
    · exact hk.elim
  · rename_i id q hop hop'
    obtain⟨i,hi,hk⟩:=withT_iff.1 hk
    split at hk
    · rename_i e hdesc
      have hu:=(hti t i hi).1
      rw[hdesc]at hu
      have fin:∀F σs σh g a w,RelS C F σs σh g a w→(∀t,Operand.tmp t∈o.op.operands.toList→σs t=s t)→∃A,a.eval x= .pointer (some A)∧a.eval y= .pointer none:=by
        intro F σs σh g a w R hs
        obtain⟨h1,h2⟩:=hx F σs σh g a w R hs
        rw[hop]at h1
        rw[hop']at h2
        obtain⟨⟨b,hb⟩,h1⟩:=h1
        rw[hb]at h1
        exact⟨_,h1,h2⟩
      unfold eqOpL at hk
      split at hk
      · refine⟨_,hk,okop_value fun F σs σh g a w R hs _=>?_⟩
        obtain⟨A,h1,h2⟩:=fin F σs σh g a w R hs
        exact⟨.bool false,by simp[execOp,ho,h1,h2,eqGuard,binOp,run_equal_pn hu],.bool _⟩
      · refine⟨_,hk,okop_value fun F σs σh g a w R hs _=>?_⟩
        obtain⟨A,h1,h2⟩:=fin F σs σh g a w R hs
        exact⟨.bool true,by simp[execOp,ho,h1,h2,eqGuard,binOp,run_equal_pn hu],.bool _⟩
      · exact hk.elim
    · exact hk.elim
  · rename_i hop hop'
    obtain⟨i,hi,hk⟩:=withT_iff.1 hk
    split at hk
    · rename_i e hdesc
      have hu:=(hti t i hi).1
      rw[hdesc]at hu
      unfold eqOpL at hk
      split at hk
      · refine⟨_,hk,okop_value fun F σs σh g a w R hs _=>?_⟩
        obtain⟨h1,h2⟩:=hx F σs σh g a w R hs
        rw[hop]at h1
        rw[hop']at h2
        exact⟨.bool true,by simp[execOp,ho,show a.eval x=_ from h1,show a.eval y=_ from h2,eqGuard,binOp,run_equal_pn hu],.bool _⟩
      · refine⟨_,hk,okop_value fun F σs σh g a w R hs _=>?_⟩
        obtain⟨h1,h2⟩:=hx F σs σh g a w R hs
        rw[hop]at h1
        rw[hop']at h2
        exact⟨.bool false,by simp[execOp,ho,show a.eval x=_ from h1,show a.eval y=_ from h2,eqGuard,binOp,run_equal_pn hu],.bool _⟩
      · exact hk.elim
    · exact hk.elim
  · rename_i id hop hop'
    obtain⟨i,hi,hk⟩:=withT_iff.1 hk
    split at hk
    · rename_i kt e hdesc
      have hu:=(hti t i hi).1
      rw[hdesc]at hu
      have fin:∀F σs σh g a w,RelS C F σs σh g a w→(∀t,Operand.tmp t∈o.op.operands.toList→σs t=s t)→∃A,a.eval x= .map (some A)∧a.eval y= .map none:=by
        intro F σs σh g a w R hs
        obtain⟨h1,h2⟩:=hx F σs σh g a w R hs
        rw[hop]at h1
        rw[hop']at h2
        obtain⟨h1,b,hb⟩:=h1
        rw[hb]at h1
        exact⟨_,h1,h2⟩
      unfold eqOpL at hk
      split at hk
      · refine⟨_,hk,okop_value fun F σs σh g a w R hs _=>?_⟩
        obtain⟨A,h1,h2⟩:=fin F σs σh g a w R hs
        exact⟨.bool false,by simp[execOp,ho,h1,h2,eqGuard,binOp,run_equal_mn hu],.bool _⟩
      · refine⟨_,hk,okop_value fun F σs σh g a w R hs _=>?_⟩
        obtain⟨A,h1,h2⟩:=fin F σs σh g a w R hs
        exact⟨.bool true,by simp[execOp,ho,h1,h2,eqGuard,binOp,run_equal_mn hu],.bool _⟩
      · exact hk.elim
    · exact hk.elim
  · rename_i hop hop'
    obtain⟨i,hi,hk⟩:=withT_iff.1 hk
    split at hk
    · rename_i kt e hdesc
      have hu:=(hti t i hi).1
      rw[hdesc]at hu
      unfold eqOpL at hk
      split at hk
      · refine⟨_,hk,okop_value fun F σs σh g a w R hs _=>?_⟩
        obtain⟨h1,h2⟩:=hx F σs σh g a w R hs
        rw[hop]at h1
        rw[hop']at h2
        exact⟨.bool true,by simp[execOp,ho,show a.eval x=_ from h1,show a.eval y=_ from h2,eqGuard,binOp,run_equal_mn hu],.bool _⟩
      · refine⟨_,hk,okop_value fun F σs σh g a w R hs _=>?_⟩
        obtain⟨h1,h2⟩:=hx F σs σh g a w R hs
        rw[hop]at h1
        rw[hop']at h2
        exact⟨.bool false,by simp[execOp,ho,show a.eval x=_ from h1,show a.eval y=_ from h2,eqGuard,binOp,run_equal_mn hu],.bool _⟩
      · exact hk.elim
    · exact hk.elim
  · rename_i u v hop hop'
    obtain⟨i,hi,hk⟩:=withT_iff.1 hk
    split at hk
    · rename_i want hdesc
      have hu:=(hti t i hi).1
      rw[hdesc]at hu
      obtain⟨hem,hk⟩:=req_iff.1 hk
      have hgd:∀w,(Op.eqGuardIn Op.maxDepth t .nilIface .nilIface).run C.P w= .ok false w:=fun w=>run_guard_if hu hem w 9999
      split at hk
      · rename_i q hq
        unfold eqOpL at hk
        split at hk
        · refine⟨_,hk,okop_value fun F σs σh g a w R hs _=>?_⟩
          obtain⟨h1,h2⟩:=hx F σs σh g a w R hs
          rw[hop]at h1
          rw[hop']at h2
          have h1:a.eval x=u:=h1.1
          have h2:a.eval y=v:=h2.1
          refine⟨.bool q,?_,.bool _⟩
          have:=run_equal_if hu hq w
          rcases ifNil_some hq with⟨rfl,rfl,rfl⟩ | ⟨t1,x1,rfl,rfl,rfl⟩
          · cases hxc:(match x with | .const _=>true | _=>false)<;>cases hyc:(match y with | .const _=>true | _=>false)<;>simp[execOp,ho,h1,h2,eqGuard,binOp,this,hgd,hxc,hyc]
          · simp[execOp,ho,h1,h2,eqGuard,binOp,this]
        · refine⟨_,hk,okop_value fun F σs σh g a w R hs _=>?_⟩
          obtain⟨h1,h2⟩:=hx F σs σh g a w R hs
          rw[hop]at h1
          rw[hop']at h2
          have h1:a.eval x=u:=h1.1
          have h2:a.eval y=v:=h2.1
          refine⟨.bool (notB q),?_,.bool _⟩
          have:=run_equal_if hu hq w
          rw[notB_eq]
          rcases ifNil_some hq with⟨rfl,rfl,rfl⟩ | ⟨t1,x1,rfl,rfl,rfl⟩
          · cases hxc:(match x with | .const _=>true | _=>false)<;>cases hyc:(match y with | .const _=>true | _=>false)<;>simp[execOp,ho,h1,h2,eqGuard,binOp,this,hgd,hxc,hyc]
          · simp[execOp,ho,h1,h2,eqGuard,binOp,this]
        · exact hk.elim
      · exact hk.elim
    · exact hk.elim
end
end Go.AM
namespace Go.AM
open Go Go.RowKit
section
variable {C:Cx}{F:Nat→Prop}{s:Slots}{h:Heap}{g:Ghost}{a:Act}{w:World}{ti:Types}
theorem withP_iff {x:AV}{K:Id→Kd→Bool→Nat→List D→Option (Nat×List CV)→Nat→Nat→Prop}(hk:withP x h K):
  ∃id kd ag sz rows foc kk o,h id=some (.tree kd ag sz rows foc)∧kd.isM=false∧kd.froz=false∧K id kd ag sz rows foc kk o∧
   ∀{w:World} {Z:Zone} {g:Ghost} {σh:Heap} {u:Value},RelH w C.X g σh→σh id=some (.tree kd ag sz rows foc)→RelAV w Z g σh x u→∃b,blk (gval (g id))=some b∧u= .pointer (some ⟨b,kk*sz+o,none⟩):=by
 unfold withP at hk
 split at hk
 ·rename_i id sz kk o
  split at hk
  ·rename_i kd ag sz' rows foc hi
   replace hk:=req_iff.1 hk
   obtain⟨h1,hk⟩:=hk
   replace hk:=req_iff.1 hk
   obtain⟨h2,hk⟩:=hk
   replace h1:=Nat.eq_of_beq_eq_true h1
   subst h1
   refine⟨id,kd,ag,sz',rows,foc,kk,o,hi,by cases kd<;>first | rfl | simp[notMap]at h2,by cases kd<;>first | rfl | simp[notMap]at h2,by assumption,fun _ hσ hr=>?_⟩
   obtain⟨_,_,h3⟩:=hr
   exact h3 (by rw[hσ];rfl)
  ·exact hk.elim
 ·rename_i id
  split at hk
  ·rename_i kd ag sz rows foc hi
   split at hk
   ·refine⟨id,_,ag,sz,rows,foc,0,0,hi,rfl,rfl,hk,fun RH hσ hr=>?_⟩
    obtain⟨_,_,h3⟩:=hr
    obtain⟨ht,h0,hf,xs,hx,_⟩:=RH.objs id _ hσ
    obtain⟨_,b,c,e,hv,_⟩:=hx
    refine⟨b,by rw[hv];rfl,?_⟩
    rw[h3 (by rw[hσ];rfl),hv]
    simp
   ·exact hk.elim
  ·exact hk.elim
 ·exact hk.elim
theorem load_foc (hti:TIok C.P ti) (h1:TIone ti) {t:TypeId}{i:TI}(hi:ti t=some i) (R:RelS C F s h g a w) {id:Id}{kd:Kd}{ag:Bool}{sz k:Nat}{rows:List D}{cs:List CV}
  (hid:h id=some (.tree kd ag sz rows (some (k,cs)))) (hkd:kd.isM=false) {b o:Nat} (hb:blk (gval (g id))=some b) (ho:o+i.size≤cs.length):
  ∃v,(Instr.loadAt t (.pointer (some ⟨b,k*sz+o,none⟩))).run C.P w= .ok v w∧RelAV w (zor (zone g h) C.X) g h (.v (V1.ofCells (rowD i.desc) ((cs.drop o).take i.size))) v:=by
 obtain⟨ht,h0,hf,xs,hx,hfoc,_⟩:=R.heap.objs id _ hid
 obtain⟨hk,hcs,hrel⟩:=hfoc k cs rfl
 have hl:=hx.len
 have hlt:k*sz+sz≤xs.length:=by
  have:=Nat.mul_le_mul_right sz (show k+1≤rows.length from hk)
  rw[Nat.add_mul]at this
  omega
 let vs:Array Value:=((xs.drop (k*sz+o)).take i.size).toArray
 have hvs:∀(j:Nat) u,vs[j]?=some u→xs[k*sz+(o+j)]?=some u∧j<i.size:=by
  intro j u hu
  simp only[vs,List.getElem?_toArray,List.getElem?_take]at hu
  split at hu
  ·rename_i hj
   rw[List.getElem?_drop]at hu
   exact⟨by rw[←hu];congr 1;omega,hj⟩
  ·cases hu
 have hsz:vs.size=i.size:=by simp[vs];omega
 obtain⟨v,hv,ha,hb'⟩:=run_load_cells (P:=C.P) (w:=w) (vs:=vs) (b:=b) (q:=k*sz+o) hti h1 hi hsz (fun j u hu=>by
  have:=hx.cell hkd hb (hvs j u hu).1
  rw[show k*sz+o+j=k*sz+(o+j)from by omega]
  exact this)
 refine⟨v,hv,?_⟩
 have:=RelV1.ofCells (w:=w) (Z:=zor (zone g h) C.X) (g:=g) (h:=h) (ag:=rowD i.desc) (cs:=(cs.drop o).take i.size) (vs:=vs) (by simp[hsz];omega) (fun j c u hc hu=>by
  rw[List.getElem?_take]at hc
  split at hc
  ·rw[List.getElem?_drop]at hc
   exact hrel (o+j) c u hc (hvs j u hu).1
  ·cases hc)
 cases hrow:rowD i.desc with
 | true=>rw[ha hrow];rw[hrow]at this;exact this.1 rfl
 | false=>rw[hrow]at this;exact this.2 rfl v (hb' hrow)
theorem RelS.storeG (R:RelS C F s h g a w) {id:Id}{ob ob':AObj}(hid:h id=some ob) {b:Nat}{c c':Array Value}{e:TypeId}
  (hwh:∀o,zone1 (g id) ob b o) (hzz:∀b' o,zone1 (g id) ob' b' o→zone1 (g id) ob b' o) (hlv:isLive (some ob')=true→isLive (some ob)=true) (htk:∀n sz e,ob'≠ .tok n sz e)
  (hb:w.heap[b]?=some (.cells c e (0,0)))
  (hobj:Evo w (zor (zone g h) C.X) g h (w.setRow b c') (zor (zone g (updO h id ob')) C.X) g (updO h id ob')→RelObj (w.setRow b c') (zor (zone g (updO h id ob')) C.X) g (updO h id ob') ob' (g id)):
  RelS C F s (updO h id ob') g a (w.setRow b c'):=by
 have hzb:∀o,zone g h b o:=fun o=>⟨id,_,hid,hwh o⟩
 have hz1:∀i oo b' o,updO h id ob' i=some oo→zone1 (g i) oo b' o→zone g h b' o:=by
  intro i oo b' o hi h1
  by_cases hin:i=id
  ·subst hin
   simp[updO]at hi
   subst hi
   exact⟨i,_,hid,hzz b' o h1⟩
  ·simp only[updO,if_neg hin]at hi
   exact⟨i,oo,hi,h1⟩
 have hcell:∀b' o u,w.cell? ⟨b',o,none⟩=some u→¬zone g h b' o→(w.setRow b c').cell? ⟨b',o,none⟩=some u:=by
  intro b' o u hu hz
  have hne:b'≠b:=by rintro rfl;exact hz (hzb o)
  exact (cell_setRow_other w b c' ⟨b',o,none⟩ hne).trans hu
 have E:Evo w (zor (zone g h) C.X) g h (w.setRow b c') (zor (zone g (updO h id ob')) C.X) g (updO h id ob'):=by
  refine⟨fun b' o u hu hz=>⟨hcell b' o u hu (fun hz'=>hz (.inl hz')),?_⟩,fun _ _ _=>rfl,fun _ _ _=>rfl,fun _ hi=>hi,fun i k sz e' _ hk=>?_,fun _ hi=>hi,fun i hi hk=>?_⟩
  ·rintro (⟨i,oo,hi,h1⟩ | hx)
   ·exact hz (.inl (hz1 i oo b' o hi h1))
   ·exact hz (.inr hx)
  ·have hin:i≠id:=by rintro rfl;simp[updO]at hk;exact htk _ _ _ hk
   exact⟨k,Nat.le_refl _,by simpa [updO,hin] using hk,fun _=>rfl⟩
  ·by_cases hin:i=id
   ·subst hin
    refine⟨?_,rfl⟩
    rw[hid]
    exact hlv (by simpa [updO] using hk)
   ·exact⟨by simpa [updO,hin] using hk,rfl⟩
 refine R.step (fun i=>i=id) E ?_ ?_ ?_ ?_ ?_ ?_ ?_ ?_
 ·exact⟨rfl,rfl,rfl,by simp,fun b' _ hz=>setRow_other w b b' c' (fun e=>hz 0 (e▸hzb 0)),hcell⟩
 ·intro i hi
  simp[updO,hi]
 ·intro i o b' hi ho hb'
  refine setRow_other w b b' c' ?_
  rintro rfl
  exact hi (R.heap.sep i id o _ b' ho hid hb' (hwh 0).obk)
 ·rintro i o rfl ho
  simp[updO]at ho
  subst ho
  exact hobj E
 ·rintro i o b' p rfl ho hb'
  simp[updO]at ho
  subst ho
  exact .inl ⟨_,_,rfl,hid,hzz _ _ hb'⟩
 ·rintro i j _ _ _ rfl rfl _ _ _ _
  rfl
 ·rintro j rfl
  exact .refl _
 ·intro k hk
  obtain⟨h1,h2⟩:=R.free k hk
  have hin:Id.loc k≠id:=by rintro rfl;rw[h2]at hid;simp at hid
  exact⟨h1,by simp[updO,hin,h2]⟩
theorem getElem?_splice {α:Type}(l m:List α) (p:Nat) (hp:p+m.length≤l.length) (j:Nat):
  (l.take p++m++l.drop (p+m.length))[j]?=if p≤j∧j<p+m.length then m[j - p]? else l[j]?:=by
 have e1:(l.take p).length=p:=by simp;omega
 split
 ·rename_i h
  rw[List.getElem?_append_left (by simp;omega),List.getElem?_append_right (by omega),e1]
 ·rename_i h
  by_cases h1:j<p
  ·rw[List.append_assoc,List.getElem?_append_left (by omega),List.getElem?_take,if_pos h1]
  ·rw[List.getElem?_append_right (by simp;omega),List.getElem?_drop]
   congr 1
   simp
   omega
theorem RelS.storeFoc (R:RelS C F s h g a w) {id:Id}{kd:Kd}{ag:Bool}{sz k:Nat}{rows:List D}{cs:List CV}
  (hid:h id=some (.tree kd ag sz rows (some (k,cs)))) (hkd:kd.isM=false) (hkf:kd.froz=false) {b o:Nat} (hb:blk (gval (g id))=some b) {ys:List CV} {vals:List Value} (hl:vals.length=ys.length) (ho:o+ys.length≤cs.length)
  (hr:∀(j:Nat) x u,ys[j]?=some x→vals[j]?=some u→RelC w (zor (zone g h) C.X) g h x u):
  ∃c e,w.heap[b]?=some (.cells c e (0,0))∧k*sz+o+vals.length≤c.size∧
   RelS C F s (updO h id (.tree kd ag sz rows (some (k,cs.take o++ys++cs.drop (o+ys.length))))) g a (w.setRow b (c.toList.take (k*sz+o)++vals++c.toList.drop (k*sz+o+vals.length)).toArray):=by
 obtain⟨ht,h0,hf,xs,hx,hfoc,U,T,h1,h2,h3,h4,h5⟩:=R.heap.objs id _ hid
 obtain⟨hk,hcs,hrel⟩:=hfoc k cs rfl
 obtain⟨b',c,e,e1,e2,e3,e4,e5⟩:=hx.block hkd (by omega)
 rw[hb]at e1
 cases e1
 have hlt:k*sz+sz≤rows.length*sz:=by
  have:=Nat.mul_le_mul_right sz (show k+1≤rows.length from hk)
  rw[Nat.add_mul]at this
  omega
 have hsp:k*sz+o+vals.length≤c.size:=by omega
 refine⟨c,e,e2,hsp,R.storeG hid (fun o'=>(h5 b).2 (.inl hb)) (fun _ _ hz=>hz) (fun _=>rfl) (fun _ _ _ h=>by cases h) e2 (fun E=>?_)⟩
 let c':Array Value:=(c.toList.take (k*sz+o)++vals++c.toList.drop (k*sz+o+vals.length)).toArray
 have hc':c'.size=c.size:=by simp[c'];omega
 have hget:∀j,c'[j]?=if k*sz+o≤j∧j<k*sz+o+vals.length then vals[j - (k*sz+o)]? else c[j]?:=by
  intro j
  have:=getElem?_splice c.toList vals (k*sz+o) (by simpa using hsp) j
  simp only[c',List.getElem?_toArray]
  rw[this]
  simp
 have hxs:∀j,xs[j]?=if j<rows.length*sz then c[j]? else none:=by
  intro j
  rw[←e4,List.getElem?_take]
  split
  ·simp
  ·rfl
 have hxs':∀j,(c'.toList.take (rows.length*sz))[j]?=if j<rows.length*sz then c'[j]? else none:=by
  intro j
  rw[List.getElem?_take]
  split
  ·simp
  ·rfl
 refine⟨ht,h0,hf,c'.toList.take (rows.length*sz),e5 c' hc',fun k' cs' hk'=>?_,U,T,fun i r j cc hi hr' hj=>?_,fun i j b hb=>⟨fun k' cs' hk'=>?_,(h2 i j b hb).2⟩,h3,h4,h5⟩
 ·cases hk'
  refine⟨hk,by simp;omega,fun j x u hx' hu=>E.relC ?_⟩
  rw[getElem?_splice cs ys o ho j]at hx'
  rw[hxs']at hu
  have hj:j<sz:=by
   rw[←hcs]
   split at hx'
   ·omega
   ·exact (List.getElem?_eq_some_iff.1 hx').1
  rw[if_pos (by omega),hget]at hu
  by_cases hin:o≤j∧j<o+ys.length
  ·rw[if_pos hin]at hx'
   rw[if_pos (by omega)]at hu
   refine hr (j - o) x u hx' ?_
   rw[←hu]
   congr 1
   omega
  ·rw[if_neg hin]at hx'
   rw[if_neg (by omega)]at hu
   refine hrel j x u hx' ?_
   rw[hxs,if_pos (by omega)]
   exact hu
 ·have hik:i≠k:=hi k _ rfl
  obtain⟨p1,p2⟩:=h1 i r j cc (fun k' cs' hk'=>by cases hk';exact hik) hr' hj
  have hfr:=hf r (List.mem_of_getElem? hr')
  have hjl:j<sz:=by rw[←hfr.2.1];exact (List.getElem?_eq_some_iff.1 hj).1
  replace p2:=(RelK.own hkf).1 p2
  refine⟨?_,(RelK.own hkf).2 (RelO.same p2 fun b' hb'=>setRow_other w b b' c' ?_)⟩
  ·rw[hxs]at p1
   rw[hxs']
   split at p1
   ·rename_i hlt'
    rw[if_pos hlt',hget,if_neg,p1]
    rintro⟨q1,q2⟩
    rcases Nat.lt_or_gt_of_ne hik with hlt2 | hlt2
    ·have:=Nat.mul_le_mul_right sz (show i+1≤k from hlt2)
     rw[Nat.add_mul]at this
     omega
    ·have:=Nat.mul_le_mul_right sz (show k+1≤i from hlt2)
     rw[Nat.add_mul]at this
     omega
   ·cases p1
  ·rintro rfl
   exact h3 i j b' hb' hb
 ·cases hk'
  exact (h2 i j b hb).1 k _ rfl
end
section
variable {C:Cx}{ti:Types}{o:Oper}{fresh:Nat}{s:Slots}{h:Heap}{k:Out→Prop}
theorem notCon_rel {w:World}{Z:Zone}{x:D}{v:Value}{S:Nat→Prop}(r:RelO w x v S) (hx:notCon x=true):RelD w Z x v:=by
 cases r with
 | int k n=>exact .int k n
 | bool b=>exact .bool b
 | str s=>exact .str s
 | nil=>exact .nil
 | con _ _ _ _ _ _ _ _ _ _ hcon=>cases x<;>first | (simp[notCon]at hx;done) | (simp[D.con]at hcon;done)
theorem load_scal (hti:TIok C.P ti) (h1:TIone ti) {t:TypeId}{i:TI}(hi:ti t=some i) {F:Nat→Prop}{g:Ghost}{a:Act}{w:World}(R:RelS C F s h g a w) {id:Id}{kd:Kd}{ag:Bool}{sz k:Nat}{rows:List D}{r:D}
  (hid:h id=some (.tree kd ag sz rows none)) (hkd:kd.isM=false) (hkf:kd.froz=false) (hr:rows[k]?=some r) {b o:Nat} (hb:blk (gval (g id))=some b) (ho:o+i.size≤r.cells.length) (hn:allB notCon ((r.cells.drop o).take i.size)=true):
  ∃v,(Instr.loadAt t (.pointer (some ⟨b,k*sz+o,none⟩))).run C.P w= .ok v w∧RelAV w (zor (zone g h) C.X) g h (.v (V1.ofCells (rowD i.desc) (((r.cells.drop o).take i.size).map CV.d))) v:=by
 obtain⟨ht,h0,hf,xs,hx,hfoc,U,T,h2,_⟩:=R.heap.objs id _ hid
 have hat:∀(j:Nat) c,r.cells[j]?=some c→xs[k*sz+j]?=some (U k j)∧RelO w c (U k j) (T k j):=fun j c hc=>⟨(h2 k r j c (fun _ _ h=>by cases h) hr hc).1,(RelK.own hkf).1 (h2 k r j c (fun _ _ h=>by cases h) hr hc).2⟩
 let vs:Array Value:=((List.range i.size).map (fun j=>U k (o+j))).toArray
 have hvs:∀(j:Nat) u,vs[j]?=some u→j<i.size∧u=U k (o+j):=by
  intro j u hu
  exact rangeArr_get hu
 obtain⟨v,hv,ha,hb'⟩:=run_load_cells (P:=C.P) (w:=w) (vs:=vs) (b:=b) (q:=k*sz+o) hti h1 hi (by simp[vs]) (fun j u hu=>by
  obtain⟨hj,rfl⟩:=hvs j u hu
  have hc:r.cells[o+j]?=some r.cells[o+j]:=by simp
  have:=hx.cell hkd hb (hat _ _ hc).1
  rw[show k*sz+o+j=k*sz+(o+j)from by omega]
  exact this)
 refine⟨v,hv,?_⟩
 have:=RelV1.ofCells (w:=w) (Z:=zor (zone g h) C.X) (g:=g) (h:=h) (ag:=rowD i.desc) (cs:=((r.cells.drop o).take i.size).map CV.d) (vs:=vs) (by simp[vs];omega) (fun j c u hc hu=>by
  obtain⟨hj,rfl⟩:=hvs j u hu
  simp only[List.getElem?_map,Option.map_eq_some_iff]at hc
  obtain⟨d,hd,rfl⟩:=hc
  have hnd:=allB_iff.1 hn d (List.mem_of_getElem? hd)
  rw[List.getElem?_take,if_pos hj,List.getElem?_drop]at hd
  exact⟨notCon_rel (hat _ _ hd).2 hnd,(hat _ _ hd).2.isAgg⟩)
 cases hrow:rowD i.desc with
 | true=>rw[ha hrow];rw[hrow]at this;exact this.1 rfl
 | false=>rw[hrow]at this;exact this.2 rfl v (hb' hrow)
theorem ok_loadT (hti:TIok C.P ti) (h1:TIone ti) (t:TypeId) (x:Operand) (ho:o.op= .load t x) (hk:outLoadT ti t (opd ti s 0 x) fresh h k):∃out,k out∧OKop C o fresh s h out:=by
 obtain⟨gs,hk⟩:=hk
 refine okop_closes hk (fun h' k' hk'=>?_)
 unfold loadT at hk'
 obtain⟨i,hi,hk'⟩:=withT_iff.1 hk'
 obtain⟨id,kd,ag,sz,rows,foc,kk,oo,hid,hkd,hkf,hk',hpl⟩:=withP_iff (C:=C) hk'
 have opx:∀{F:Nat→Prop} {σs:Slots} {σh:Heap} {g:Ghost} {a:Act} {w:World} (R:RelS C F σs σh g a w),(∀t,Operand.tmp t∈o.op.operands.toList→σs t=s t)→RelAV w (zor (zone g σh) C.X) g σh (opd ti s 0 x) (a.eval x):=
  fun R hs=>opd_rel ti 0 x R (s:=s) (fun k hk=>hs k (by subst hk;simp[ho,Op.operands]))
 cases foc with
 | some p=>
  obtain⟨k0,cs⟩:=p
  obtain⟨rfl,hk'⟩:=hk'
  obtain⟨hle,hk'⟩:=req_iff.1 hk'
  refine⟨_,hk',okop_value fun F σs σh g a w R hs hrd=>?_⟩
  have hσ:=(hrd id (by simp)).trans hid
  obtain⟨b,hb,hu⟩:=hpl R.heap hσ (opx R hs)
  obtain⟨v,hv,hr⟩:=load_foc hti h1 hi R hσ hkd hb (Nat.le_of_ble_eq_true hle)
  exact⟨v,by simp only[execOp,ho,hu];exact run_value hv,hr⟩
 | none=>
  obtain⟨r,hr,hk'⟩:=hk'
  obtain⟨hle,b,hk'⟩:=req_iff.1 hk'
  cases b with
  | true=>
   obtain⟨hn,hk'⟩:=req_iff.1 hk'
   refine⟨_,hk',okop_value fun F σs σh g a w R hs hrd=>?_⟩
   have hσ:=(hrd id (by simp)).trans hid
   obtain⟨b,hb,hu⟩:=hpl R.heap hσ (opx R hs)
   obtain⟨v,hv,hr⟩:=load_scal hti h1 hi R hσ hkd hkf hr hb (Nat.le_of_ble_eq_true hle) hn
   exact⟨v,by simp only[execOp,ho,hu];exact run_value hv,hr⟩
  | false=>
   obtain⟨hn,hk'⟩:=req_iff.1 hk'
   refine⟨_,hk',?_⟩
   rintro F σs σh a w Q ⟨g,R⟩ hs hrd hF hd
   have hσ:=(hrd id (by simp)).trans hid
   obtain⟨b,hb,hu⟩:=hpl R.heap hσ (opx R hs)
   obtain⟨g',R',hgv⟩:=R.openT hkf hσ hr hF (Nat.le_of_ble_eq_true hn)
   have hσ':updW (updO σh id (.tree kd ag sz rows (some (kk,openC fresh 0 r.cells)))) (openO fresh 0 r.cells) id=some (.tree kd ag sz rows (some (kk,openC fresh 0 r.cells))):=by
    rcases openO_get (fresh:=fresh) (ds:=r.cells) (c:=0) (h:=updO σh id (.tree kd ag sz rows (some (kk,openC fresh 0 r.cells)))) (x:=id)with⟨j,d,_,_,_,_,p1,p2,p3,_⟩ | ⟨_,p2⟩
    ·have hj:=(List.getElem?_eq_some_iff.1 p1).1
     have hn':=Nat.le_of_ble_eq_true hn
     have:=(R.free _ (hF (0+j) (by omega))).2
     rw[←p3,hσ]at this
     cases this
    ·rw[p2];simp[updO]
   obtain⟨v,hv,hrel⟩:=load_foc hti h1 hi R' hσ' hkd (by rw[hgv];exact hb) (by rw[openC_len];exact Nat.le_of_ble_eq_true hle)
   unfold Oper.wp
   have hrun:(execOp a.eval o).run C.P w= .ok (.value v) w:=by simp only[execOp,ho,hu];exact run_value hv
   rw[hrun]
   exact⟨g',R'.put hd hrel⟩
theorem run_storeT (hti:TIok C.P ti) {t:TypeId}{i:TI}(hi:ti t=some i) {x y:Operand}(ho:o.op= .store t x y) {a:Act}{w:World}{b q:Nat}{c:Array Value}{e:TypeId}(hu:a.eval x= .pointer (some ⟨b,q,none⟩))
  (hb:w.heap[b]?=some (.cells c e (0,0))) (hsz:(a.eval y).cells.size=i.size) (hle:q+i.size≤c.size) (hone:∀v∈(a.eval y).cells.toList,v.oneCell'=true):
  (execOp a.eval o).run C.P w= .ok .skip (w.setRow b (c.toList.take q++(a.eval y).cells.toList++c.toList.drop (q+(a.eval y).cells.toList.length)).toArray):=by
 have hst:=run_storeCells_at C.P b q e (a.eval y).cells.toList 0 c w hb (by simp;omega) hone
 simp only[Nat.add_zero,Array.length_toList]at hst
 obtain⟨_,ii,hii,hsi,_⟩:=hti t i hi
 simp only[execOp,ho,hu,Instr.storeAt,Instr.sureAddr,storeVar,sizeOf,typeInfo,Sem.run_bind,run_program,Result.andThen_ok,Sem.run_pure,hii,hsi,hsz]
 simp[hst]
theorem ok_storeT (hti:TIok C.P ti) (t:TypeId) (x y:Operand) (ho:o.op= .store t x y) (hd:o.dst=none) (hk:outStoreT ti t (opd ti s 0 x) (opd ti s t y) fresh h k):∃out,k out∧OKop C o fresh s h out:=by
 obtain⟨gs,hk⟩:=hk
 refine okop_closes hk (fun h' k' hk'=>?_)
 unfold storeT at hk'
 obtain⟨i,hi,hk'⟩:=withT_iff.1 hk'
 obtain⟨yv,hyv,hk'⟩:=withV_iff.1 hk'
 obtain⟨hlen,hk'⟩:=req_iff.1 hk'
 have hlen:=Nat.eq_of_beq_eq_true hlen
 obtain⟨id,kd,ag,sz,rows,foc,kk,oo,hid,hkd,hkf,hk',hpl⟩:=withP_iff (C:=C) hk'
 have opx:∀{F:Nat→Prop} {σs:Slots} {σh:Heap} {g:Ghost} {a:Act} {w:World} (R:RelS C F σs σh g a w),(∀t,Operand.tmp t∈o.op.operands.toList→σs t=s t)→RelAV w (zor (zone g σh) C.X) g σh (opd ti s 0 x) (a.eval x):=
  fun R hs=>opd_rel ti 0 x R (s:=s) (fun k hk=>hs k (by subst hk;simp[ho,Op.operands]))
 have opy:∀{F:Nat→Prop} {σs:Slots} {σh:Heap} {g:Ghost} {a:Act} {w:World} (R:RelS C F σs σh g a w),(∀t,Operand.tmp t∈o.op.operands.toList→σs t=s t)→RelAV w (zor (zone g σh) C.X) g σh (.v yv) (a.eval y):=
  fun R hs=>hyv▸opd_rel ti t y R (s:=s) (fun k hk=>hs k (by subst hk;simp[ho,Op.operands]))
 -- the store itself, at an open row
 have main:∀{F:Nat→Prop} {σs:Slots} {σh:Heap} {g:Ghost} {a:Act} {w:World} {Q:Exit→Act→World→Prop} {cs:List CV} (R:RelS C F σs σh g a w),(∀t,Operand.tmp t∈o.op.operands.toList→σs t=s t)→
   σh id=some (.tree kd ag sz rows (some (kk,cs)))→∀b,blk (gval (g id))=some b→a.eval x= .pointer (some ⟨b,kk*sz+oo,none⟩)→oo+i.size≤cs.length→∀F',(∀n,F' n→F n)→
   o.wp C.P a w (fun a' w'=>Rel C F' (updS σs o.dst .u) (updO σh id (.tree kd ag sz rows (some (kk,cs.take oo++yv.cells++cs.drop (oo+i.size))))) a' w') Q:=by
  intro F σs σh g a w Q cs R hs hσ b hb hu hle F' hF'
  obtain⟨hy1,hy2⟩:=RelV1.cells (show RelV1 w _ g σh yv (a.eval y)from opy R hs)
  have hone:∀v∈(a.eval y).cells.toList,v.oneCell'=true:=by
   intro v hv
   obtain⟨j,hj⟩:=List.mem_iff_getElem?.1 hv
   have hlt:=(List.getElem?_eq_some_iff.1 hj).1
   simp at hlt hj
   exact RelC.oneCell (hy2 j yv.cells[j] v (by simp) (by simpa using hj))
  obtain⟨c,e,p1,p2,R'⟩:=R.storeFoc hσ hkd hkf hb (ys:=yv.cells) (vals:=(a.eval y).cells.toList) (o:=oo) (by simpa using hy1) (by omega) (fun j x u h1 h2=>hy2 j x u h1 (by simpa using h2))
  unfold Oper.wp
  rw[run_storeT hti hi ho hu p1 (by omega) (by simp at p2;omega) hone]
  rw[hlen]at R'
  exact⟨g,(R'.put (dst:=o.dst) (v:=.u) (u:=undef) (fun d e=>by rw[hd]at e;cases e) trivial).free_mono hF'⟩
 cases foc with
 | some p=>
  obtain⟨k0,cs⟩:=p
  obtain⟨rfl,hk'⟩:=hk'
  obtain⟨hle,hk'⟩:=req_iff.1 hk'
  refine⟨_,hk',?_⟩
  rintro F σs σh a w Q ⟨g,R⟩ hs hrd hF _
  have hσ:=(hrd id (by simp)).trans hid
  obtain⟨b,hb,hu⟩:=hpl R.heap hσ (opx R hs)
  exact main R hs hσ b hb hu (Nat.le_of_ble_eq_true hle) _ (fun n hn=>hn.1)
 | none=>
  obtain⟨r,hr,hk'⟩:=hk'
  obtain⟨hle,hk'⟩:=req_iff.1 hk'
  obtain⟨hn,hk'⟩:=req_iff.1 hk'
  refine⟨_,hk',?_⟩
  rintro F σs σh a w Q ⟨g,R⟩ hs hrd hF _
  have hσ:=(hrd id (by simp)).trans hid
  obtain⟨b,hb,hu⟩:=hpl R.heap hσ (opx R hs)
  obtain⟨g',R',hgv⟩:=R.openT hkf hσ hr hF (Nat.le_of_ble_eq_true hn)
  have hni:∀{hh:Heap},updW hh (openO fresh 0 r.cells) id=hh id:=by
   intro hh
   rcases openO_get (fresh:=fresh) (ds:=r.cells) (c:=0) (h:=hh) (x:=id)with⟨j,d,_,_,_,_,p1,p2,p3,_⟩ | ⟨_,p2⟩
   ·have hj:=(List.getElem?_eq_some_iff.1 p1).1
    have hn':=Nat.le_of_ble_eq_true hn
    have:=(R.free _ (hF (0+j) (by omega))).2
    rw[←p3,hσ]at this
    cases this
   ·exact p2
  have hσ':updW (updO σh id (.tree kd ag sz rows (some (kk,openC fresh 0 r.cells)))) (openO fresh 0 r.cells) id=some (.tree kd ag sz rows (some (kk,openC fresh 0 r.cells))):=by
   rw[hni];simp[updO]
  have:=main (Q:=Q) R' hs hσ' b (by rw[hgv];exact hb) hu (by rw[openC_len];exact Nat.le_of_ble_eq_true hle) _ (fun n hn=>hn)
  -- the two ways to write the heap
  have he:∀ob ob':AObj,updO (updW (updO σh id ob) (openO fresh 0 r.cells)) id ob'=updW σh ((id,ob')::openO fresh 0 r.cells):=by
   intro ob ob'
   funext y
   show (if y=id then some ob' else updW (updO σh id ob) (openO fresh 0 r.cells) y)=updW (updO σh id ob') (openO fresh 0 r.cells) y
   by_cases hy:y=id
   ·rw[if_pos hy,hy,hni];simp[updO]
   ·rw[if_neg hy]
    exact updW_eq (by simp[updO,hy])
  rw[he]at this
  exact this
theorem ok_fieldT (hti:TIok C.P ti) (t:TypeId) (x:Operand) (f:Nat) (ho:o.op= .fieldAddr t x f) (hk:outFieldT ti t (opd ti s 0 x) f h k):∃out,k out∧OKop C o fresh s h out:=by
 unfold outFieldT at hk
 obtain⟨i,hi,hk⟩:=withT_iff.1 hk
 split at hk
 ·rename_i fs hfs
  split at hk
  ·rename_i fd hfd
   obtain⟨j,hj,hk⟩:=withT_iff.1 hk
   obtain⟨hpos,hk⟩:=req_iff.1 hk
   have hpos:j.size≠0:=by
    have:0<j.size:=by simpa using hpos
    omega
   obtain⟨id,kd,ag,sz,rows,foc,kk,oo,hid,hkd,hkf,hk,hpl⟩:=withP_iff (C:=C) hk
   refine⟨_,hk,okop_value fun F σs σh g a w R hs hrd=>?_⟩
   have hσ:=(hrd id (by simp)).trans hid
   obtain⟨b,hb,hu⟩:=hpl R.heap hσ (opd_rel ti 0 x R (s:=s) (fun k hk=>hs k (by subst hk;simp[ho,Op.operands])))
   refine⟨.pointer (some ⟨b,kk*sz+oo+fd.offset,none⟩),?_,rfl,(R.heap.objs id _ hσ).1,fun _=>⟨b,hb,by rw[Nat.add_assoc]⟩⟩
   have h1:=tund hti hi w
   rw[hfs]at h1
   have h2:=tsize hti hj w
   simp only[execOp,ho,hu]
   refine run_value ?_
   simp[Instr.fieldAt,h1,hfd,Instr.sureAddr,fieldPlace,h2,hpos,addr_add]
  ·exact hk.elim
 ·exact hk.elim
theorem ok_nilCheckT (x:Operand) (ho:o.op= .nilCheck x) (hk:outNilCheckT (opd ti s 0 x) h k):∃out,k out∧OKop C o fresh s h out:=by
 obtain⟨id,kd,ag,sz,rows,foc,kk,oo,hid,hkd,hkf,hk,hpl⟩:=withP_iff (C:=C) hk
 refine⟨_,hk,okop_value fun F σs σh g a w R hs hrd=>?_⟩
 have hσ:=(hrd id (by simp)).trans hid
 have hx:=opd_rel ti 0 x R (s:=s) (fun k hk=>hs k (by subst hk;simp[ho,Op.operands]))
 obtain⟨b,hb,hu⟩:=hpl R.heap hσ hx
 exact⟨a.eval x,by simp[execOp,ho,hu],hx⟩
theorem run_getMap {P:Program}{w:World}{r:Nat}{m:Array MapEntry}{cl:Nat}(hh:w.heap[r]?=some (.map m cl)):(getObj r).run P w= .ok (.map m cl) w:=by
 simp[getObj,Sem.run,hh]
theorem Holds.row {w:World}{sz:Nat}{v:Value}{n:Nat}{xs:List Value}(h:Holds w .row sz v n xs):∃A cap,v= .slice A n cap∧n≤cap∧cap≤maxLen∧(0<n→∃b,A=some ⟨b,0,none⟩):=by
 obtain⟨e,h1,h2⟩:=h
 rcases h2 with⟨hv,hn⟩ | ⟨q,cap,cur,hv,hg,hh,hnc,hcm,hcs,htake⟩
 ·exact⟨none,0,by rw[hv,hn],by omega,Nat.zero_le _,fun h=>by omega⟩
 ·exact⟨_,cap,hv,hnc,hcm,fun _=>⟨q,rfl⟩⟩
theorem ok_indexT (hti:TIok C.P ti) (t:TypeId) (x y:Operand) (ho:o.op= .indexAddr t x y) (hk:outIndexT C.M ti t (opd ti s t x) (opd ti s 3 y) h k):∃out,k out∧OKop C o fresh s h out:=by
 unfold outIndexT at hk
 obtain⟨q,n,hyv,hk⟩:=withI_iff.1 hk
 obtain⟨i,hi,hk⟩:=withT_iff.1 hk
 split at hk
 ·rename_i e hdesc
  obtain⟨j,hj,hk⟩:=withT_iff.1 hk
  split at hk
  ·rename_i id hop
   split at hk
   ·rename_i kd ag sz rows foc hid
    split at hk
    ·obtain⟨hsz,hlk,hk⟩:=req_iff.1 hk
     obtain⟨h0,hlt⟩:=(C.M.lock_iff _).1 hlk
     have hsz:=Nat.eq_of_beq_eq_true hsz
     refine⟨_,hk,okop_value fun F σs σh g a w R hs hrd=>?_⟩
     have hσ:=(hrd id (by simp)).trans hid
     have hv:=opd_rel ti t x R (s:=s) (fun k hk=>hs k (by subst hk;simp[ho,Op.operands]))
     have hn:=opd_rel ti 3 y R (s:=s) (fun k hk=>hs k (by subst hk;simp[ho,Op.operands]))
     rw[hyv]at hn
     have hn:=relI hn
     rw[hop]at hv
     have hv:=hv.2.2 (by rw[hσ];rfl)
     obtain⟨ht,h0',hf,xs,hx,_⟩:=R.heap.objs id _ hσ
     obtain⟨A,cap,hg,hcap,hmax,hA⟩:=hx.row
     obtain⟨b,rfl⟩:=hA (by omega)
     rw[hg]at hv
     refine⟨.pointer (some ⟨b,n.toNat*sz,none⟩),?_,rfl,ht,fun _=>⟨b,by rw[hg];rfl,by simp⟩⟩
     have h1:=tund hti hi w
     rw[hdesc]at h1
     have h2:=tsize hti hj w
     have h3:0≤n∧n<(rows.length:Int):=by omega
     simp only[execOp,ho]
     refine run_value ?_
     simp[Instr.indexAt,asIntOf,h1,h2,hv,hn,h3,addr_add,Instr.sureAddr,hsz]
    ·exact hk.elim
   ·exact hk.elim
  ·exact hk.elim
 ·exact hk.elim
theorem ok_lenT (hti:TIok C.P ti) (t:TypeId) (x:Operand) (ho:o.op= .call {callee:=.builtin .len,args:=#[x],argTypes:=#[t]}) (hk:outLenT C.M ti t (opd ti s t x) h k):∃out,k out∧OKop C o fresh s h out:=by
 unfold outLenT at hk
 obtain⟨i,hi,hk⟩:=withT_iff.1 hk
 split at hk
 ·rename_i id hop
  split at hk
  ·rename_i kd ag sz rows foc hid
   have opx:∀{F:Nat→Prop} {σs:Slots} {σh:Heap} {g:Ghost} {a:Act} {w:World} (R:RelS C F σs σh g a w),(∀t,Operand.tmp t∈o.op.operands.toList→σs t=s t)→σh id=h id→
     ∃xs,Holds w kd sz (a.eval x) rows.length xs:=by
    intro F σs σh g a w R hs hrd
    have hσ:=hrd.trans hid
    have hv:=opd_rel ti t x R (s:=s) (fun k hk=>hs k (by subst hk;simp[ho,Op.operands,Call.operands]))
    rw[hop]at hv
    obtain⟨ht,h0',hf,xs,hx,_⟩:=R.heap.objs id _ hσ
    rw[hv.2.2 (by rw[hσ];rfl)]
    exact⟨xs,hx⟩
   split at hk
   ·split at hk
    ·rename_i e hdesc
     obtain⟨z,hz,hk⟩:=hk
     refine⟨_,hk,okop_value fun F σs σh g a w R hs hrd=>?_⟩
     obtain⟨xs,hx⟩:=opx R hs (hrd id (by simp))
     obtain⟨A,cap,hv,_⟩:=hx.row
     rw[←hz,C.M.lenI_eq]
     refine⟨.int .i64 rows.length,?_,.int _ _⟩
     have h1:=tund hti hi w
     rw[hdesc]at h1
     simp[execOp,ho,resolve,invoke,builtin,Builtin.len_,h1,hv,goInt]
    ·exact hk.elim
   ·split at hk
    ·rename_i kt et hdesc
     obtain⟨z,hz,hk⟩:=hk
     refine⟨_,hk,okop_value fun F σs σh g a w R hs hrd=>?_⟩
     obtain⟨xs,r,m,cl,hv,hh,hn,_⟩:=opx R hs (hrd id (by simp))
     rw[←hz,C.M.lenI_eq]
     refine⟨.int .i64 rows.length,?_,.int _ _⟩
     have h1:=tund hti hi w
     rw[hdesc]at h1
     simp[execOp,ho,resolve,invoke,builtin,Builtin.len_,h1,hv,goInt,run_getMap hh,hn]
    ·exact hk.elim
   ·exact hk.elim
  ·exact hk.elim
 ·exact hk.elim
end
end Go.AM
