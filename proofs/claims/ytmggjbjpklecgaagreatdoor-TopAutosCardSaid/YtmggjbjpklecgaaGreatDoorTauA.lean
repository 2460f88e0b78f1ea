/- Part of a proof. No condition. (Part 1.) -/
import Derived.WalkKit
import Derived.Orders
import Derived.Laws.AppendOwn
import Derived.RangeFuncLeaves
import Derived.RangeFuncCalls
import Derived.RangeFuncRecord
import Derived.Deep.MidRow
import Derived.Laws.Tables
set_option linter.unusedVariables false
set_option linter.unusedSimpArgs false
namespace Go.AM
open Go Go.RowKit
inductive D where
 | int (k:IntKind) (n:Int)
 | bool (b:Bool)
 | str (s:ByteArray)
 | agg (cs:List D)
 | list (ag:Bool) (sz:Nat) (rows:List D)
 | nil
 | box (cs:List D)
 | map (sz:Nat) (rows:List D)
def D.cells:D→List D
 | .agg cs=>cs
 | x=>[x]
def D.isAgg:D→Bool
 | .agg _=>true
 | _=>false
def D.fits (ag:Bool) (sz:Nat) (x:D):Prop:=x.isAgg=ag∧x.cells.length=sz∧∀c∈x.cells,c.isAgg=false
def rowOf (ag:Bool) (ds:List D):D:=
 match ag with
 | true=>.agg ds
 | false=>match ds with
  | [d]=>d
  | _=>.agg ds
def rowsOf (ag:Bool) (sz n:Nat) (ds:List D):List D:=(List.range n).map fun i=>rowOf ag ((ds.drop (i*sz)).take sz)
theorem FJ {ag:Bool}{sz n:Nat}{ds:List D}{i:Nat}{r:D}(h:(rowsOf ag sz n ds)[i]?=some r):i<n∧r=rowOf ag ((ds.drop (i*sz)).take sz):=by
 simp only[rowsOf,List.getElem?_map,Option.map_eq_some_iff]at h
 obtain⟨x,hx,rfl⟩:=h
 obtain⟨hlt,hx⟩:=List.getElem?_eq_some_iff.1 hx
 simp at hlt hx
 subst hx
 exact⟨hlt,rfl⟩
theorem Hw {ag:Bool}{sz n:Nat}{ds:List D}:(rowsOf ag sz n ds).length=n:=by simp[rowsOf]
abbrev Av:=Nat→Nat→Prop
inductive Aj (w:World) (Z:Av):D→Value→Prop where
 | int (k:IntKind) (n:Int):Aj w Z (.int k n) (.int k n)
 | bool (b:Bool):Aj w Z (.bool b) (.bool b)
 | str (s:ByteArray):Aj w Z (.str s) (.string s)
 | agg (cs:List D) (vs:Array Value) (hs:vs.size=cs.length) (h1:∀c∈cs,c.isAgg=false)
   (h:∀(j:Nat) c v,cs[j]?=some c→vs[j]?=some v→Aj w Z c v):Aj w Z (.agg cs) (.agg vs)
 | nil:Aj w Z .nil (.pointer none)
 | box (cs:List D) (v:Value) (hv:v.oneCell'=true):Aj w Z (.box cs) v
 | map (sz:Nat) (rows:List D) (v:Value) (hv:v.oneCell'=true):Aj w Z (.map sz rows) v
 | list (ag:Bool) (sz:Nat) (rows:List D) (a:Option Addr) (cap b o:Nat) (U:Nat→Nat→Value)
   (hcap:rows.length≤cap) (hmax:cap≤maxLen) (hfit:∀r∈rows,r.fits ag sz)
   (ha:rows≠[]→a=some ⟨b,o,none⟩)
   (hc:∀(i:Nat) r (j:Nat) c,rows[i]?=some r→r.cells[j]?=some c→w.cell? ⟨b,o+(i*sz+j),none⟩=some (U i j)∧¬Z b (o+(i*sz+j)))
   (hr:∀(i:Nat) r (j:Nat) c,rows[i]?=some r→r.cells[j]?=some c→Aj w Z c (U i j)):Aj w Z (.list ag sz rows) (.slice a rows.length cap)
theorem Aj.mono {w w':World}{Z Z':Av}(hw:∀b o u,w.cell? ⟨b,o,none⟩=some u→¬Z b o→w'.cell? ⟨b,o,none⟩=some u∧¬Z' b o)
  {x:D} {v:Value} (h:Aj w Z x v):Aj w' Z' x v:=by
 induction h with
 | int k n=>exact .int k n
 | bool b=>exact .bool b
 | str s=>exact .str s
 | nil=>exact .nil
 | box cs v hv=>exact .box cs v hv
 | map sz rows v hv=>exact .map sz rows v hv
 | agg cs vs hs h1 _ ih=>exact .agg cs vs hs h1 ih
 | list ag sz rows a cap b o U hcap hmax hfit ha hc _ ih=>
  exact .list ag sz rows a cap b o U hcap hmax hfit ha (fun i r j c h1 h2=>hw _ _ _ (hc i r j c h1 h2).1 (hc i r j c h1 h2).2) ih
inductive Kd where
 | row
 | flat
 | box
 | map
 | fmap (e:Bool)
def Kd.Jf:Kd→Bool
 | .flat=>true
 | .fmap _=>true
 | _=>false
def Kd.isM:Kd→Bool
 | .map=>true
 | .fmap _=>true
 | _=>false
def D.con:D→Option (Kd×Bool×Nat×List D)
 | .list ag sz rows=>some (.row,ag,sz,rows)
 | .box cs=>some (.box,true,cs.length,[.agg cs])
 | .map sz rows=>some (.map,true,sz,rows)
 | _=>none
def IL:Kd→Bool→Nat→List D→Option D
 | .row,ag,sz,rows=>some (.list ag sz rows)
 | .flat,_,_,_=>none
 | .fmap _,_,_,_=>none
 | .box,ag,sz,rows=>match ag with
  | true=>match rows with
   | [.agg cs]=>match Nat.beq cs.length sz with
    | true=>some (.box cs)
    | false=>none
   | _=>none
  | false=>none
 | .map,ag,sz,rows=>match ag with
  | true=>some (.map sz rows)
  | false=>none
def blk:Value→Option Nat
 | .pointer (some a)=>some a.block
 | .slice (some a) _ _=>some a.block
 | .map (some r)=>some r
 | _=>none
def J4 (m:Array MapEntry):List Value:=m.toList.flatMap fun e=>e.key::e.val.cells.toList
def Qz (b:Bool) (v:Value):Prop:=match b with
 | true=>∃vs,v= .agg vs
 | false=>v.oneCell'=true
def Holds (w:World) (k:Kd) (sz:Nat) (v:Value) (n:Nat) (xs:List Value):Prop:=
 match k with
 | .row=>∃e,w.ownsRow 0 e sz v n xs
 | .flat=>∃e,w.ownsRow 0 e sz v n xs
 | .box=>n=1∧∃b c e,v= .pointer (some ⟨b,0,none⟩)∧w.heap[b]?=some (.cells c e (0,0))∧c.toList=xs∧c.size=sz
 | .map=>∃r m clock,v= .map (some r)∧w.heap[r]?=some (.map m clock)∧m.size=n∧(∀e∈m,e.born<clock)∧(∀e∈m,e.val.cells.size+1=sz)∧J4 m=xs
 | .fmap b=>∃r m clock,v= .map (some r)∧w.heap[r]?=some (.map m clock)∧m.size=n∧(∀e∈m,e.born<clock)∧(∀e∈m,e.val.cells.size+1=sz)∧(∀e∈m,Qz b e.val)∧J4 m=xs
inductive B9 (w:World):D→Value→(Nat→Prop)→Prop where
 | int (k:IntKind) (n:Int):B9 w (.int k n) (.int k n) (fun _=>False)
 | bool (b:Bool):B9 w (.bool b) (.bool b) (fun _=>False)
 | str (s:ByteArray):B9 w (.str s) (.string s) (fun _=>False)
 | nil:B9 w .nil (.pointer none) (fun _=>False)
 | con (k:Kd) (ag:Bool) (sz:Nat) (rows:List D) (x:D) (v:Value) (xs:List Value) (U:Nat→Nat→Value) (T:Nat→Nat→Nat→Prop) (S:Nat→Prop)
   (hcon:x.con=some (k,ag,sz,rows)) (hsz:0<sz) (hfit:∀r∈rows,r.fits ag sz) (hx:Holds w k sz v rows.length xs)
   (hU:∀(i:Nat) r (j:Nat) c,rows[i]?=some r→r.cells[j]?=some c→xs[i*sz+j]?=some (U i j))
   (hr:∀(i:Nat) r (j:Nat) c,rows[i]?=some r→r.cells[j]?=some c→B9 w c (U i j) (T i j))
   (hT:∀i j b,T i j b→∃r c,rows[i]?=some r∧r.cells[j]?=some c)
   (hd1:∀i j b,T i j b→blk v≠some b)
   (hd2:∀i j i' j' b,T i j b→T i' j' b→i=i'∧j=j')
   (hS:∀b,S b↔blk v=some b∨∃i j,T i j b):B9 w x v S
def C0 (w:World) (Z:Av) (k:Kd) (c:D) (u:Value) (T:Nat→Prop):Prop:=match k.Jf with
 | true=>(Aj w Z c u∧c.isAgg=false)∧∀b,¬T b
 | false=>B9 w c u T
theorem C0.own {w:World}{Z:Av}{k:Kd}{c:D}{u:Value}{T:Nat→Prop}(hk:k.Jf=false):C0 w Z k c u T↔B9 w c u T:=by
 unfold C0;rw[hk]
theorem C0.fz {w:World}{Z:Av}{k:Kd}{c:D}{u:Value}{T:Nat→Prop}(hk:k.Jf=true):C0 w Z k c u T↔(Aj w Z c u∧c.isAgg=false)∧∀b,¬T b:=by
 unfold C0;rw[hk]
theorem C0.map {w w':World}{Z Z':Av}{k:Kd}{c:D}{u:Value}{T:Nat→Prop}(r:C0 w Z k c u T) (hD:Aj w Z c u→Aj w' Z' c u) (hO:B9 w c u T→B9 w' c u T):C0 w' Z' k c u T:=by
 cases h:k.Jf with
 | true=>rw[C0.fz h]at r ⊢;exact⟨⟨hD r.1.1,r.1.2⟩,r.2⟩
 | false=>rw[C0.own h]at r ⊢;exact hO r
theorem Aj.Bw {w:World}{Z:Av}{x:D}{v:Value}(h:Aj w Z x v) (hx:x.isAgg=false):v.oneCell'=true:=by
 cases h<;>first | rfl | assumption | simp[D.isAgg]at hx
theorem Dl {v:Value}(h:v.oneCell'=true):v.cells=#[v]:=by
 cases v<;>first | rfl | simp[Value.oneCell']at h
theorem Aj.cellsOf {w:World}{Z:Av}{x:D}{v:Value}(h:Aj w Z x v):
  v.cells.size=x.cells.length∧(∀(j:Nat) c u,x.cells[j]?=some c→v.cells[j]?=some u→Aj w Z c u∧c.isAgg=false):=by
 cases hx:x.isAgg with
 | true=>
  cases h with
  | agg cs vs hs h1 h=>
   refine⟨hs,fun j c u hc hu=>⟨h j c u hc hu,h1 c (List.mem_of_getElem? hc)⟩⟩
  | _=>simp[D.isAgg]at hx
 | false=>
  have e1:x.cells=[x]:=by cases x<;>first | rfl | simp[D.isAgg]at hx
  rw[e1,Dl (h.Bw hx)]
  refine⟨rfl,fun j c u hc hu=>?_⟩
  match j with
  | 0=>simp at hc hu;subst hc;subst hu;exact⟨h,hx⟩
  | j+1=>simp at hc
inductive Id where
 | loc (n:Nat)
 | ext (n:Nat)
def Id.beq:Id→Id→Bool
 | .loc a,.loc b=>Nat.beq a b
 | .ext a,.ext b=>Nat.beq a b
 | _,_=>false
theorem Id.beq_iff {i j:Id}:Id.beq i j=true↔i=j:=by
 cases i<;>cases j<;>simp[Id.beq]
theorem Id.beq_false {i j:Id}:Id.beq i j=false↔i≠j:=by
 rw[←Bool.not_eq_true,Id.beq_iff]
instance:DecidableEq Id:=fun i j=>if h:Id.beq i j=true then .isTrue (Id.beq_iff.1 h)else .isFalse (fun e=>h (Id.beq_iff.2 e))
inductive CV where
 | un
 | d (x:D)
 | ptr (i:Id) (o:Nat)
 | row (ag:Bool) (sz:Nat) (x:D)
 | rp (cs:List D)
 | nilp
 | fn (f:Nat) (cap:List Id)
 | nilf
 | nils (ag:Bool) (sz:Nat)
 | tl (ag:Bool) (sz:Nat) (rows:List D)
 | lst (i:Id) (ag:Bool) (sz:Nat) (rows:List D)
 | sl (i:Id) (n:Nat)
 | map (i:Id)
 | nilm
 | ap (i:Id) (base sz k o:Nat)
 | ow (i:Id)
 | op (i:Id) (sz k o:Nat)
 | yl (i:Id)
 | bm (f:Nat) (i:Id)
inductive V1 where
 | d (x:D)
 | c (x:CV)
 | agg (cs:List CV)
inductive AV where
 | u
 | v (x:V1)
 | t (xs:List V1)
structure RF where
 params:Array Tmp
 assign:Code
 body:Code
 nt:Nat
abbrev Mi:=Int×List D×List D
abbrev Az:=(ByteArray×Bool)×Int
def CS (x:ByteArray×Bool):Value:=.agg #[.string x.1,.bool x.2]
def Ux (x:Az):Value×Value:=(CS x.1,.int .i64 x.2)
def Cv (es:List MapEntry) (m:List Az):Prop:=es.map (fun e=>(e.key,e.val))=m.map Ux
inductive AQ where
 | cells (cs:List CV)
 | tok (n sz:Nat) (e:TypeId)
 | map (kt et:TypeId) (es:List Az)
 | arr (cs1:List CV) (ag:Bool) (sz:Nat) (rows:List D) (cs2:List CV)
 | tree (kd:Kd) (ag:Bool) (sz:Nat) (rows:List D) (foc:Option (Nat×List CV))
 | pmap (n1 sz n:Nat) (rows:List Mi) (foc:Option (Nat×Id))
 | part (c:Nat) (ag:Bool) (sz:Nat) (rows:List D)
 | gone
 | rnd (r:Unit→RF) (sl:List (Nat×AV))
 | rndX (j:Option Nat)
def CV.BW (m:Id→Id):CV→CV
 | .ptr i o=>.ptr (m i) o
 | .fn f cap=>.fn f (cap.map m)
 | .lst i ag sz rows=>.lst (m i) ag sz rows
 | .sl i n=>.sl (m i) n
 | .map i=>.map (m i)
 | .ap i b sz k o=>.ap (m i) b sz k o
 | .ow i=>.ow (m i)
 | .op i sz k o=>.op (m i) sz k o
 | .yl i=>.yl (m i)
 | .bm f i=>.bm f (m i)
 | c=>c
def V1.BW (m:Id→Id):V1→V1
 | .d x=>.d x
 | .c x=>.c (x.BW m)
 | .agg cs=>.agg (cs.map (CV.BW m))
def AV.BW (m:Id→Id):AV→AV
 | .u=>.u
 | .v x=>.v (x.BW m)
 | .t xs=>.t (xs.map (V1.BW m))
def AQ.BW (m:Id→Id):AQ→AQ
 | .cells cs=>.cells (cs.map (CV.BW m))
 | .tok n sz e=>.tok n sz e
 | .map kt et es=>.map kt et es
 | .arr cs1 ag sz rows cs2=>.arr (cs1.map (CV.BW m)) ag sz rows (cs2.map (CV.BW m))
 | .tree kd ag sz rows foc=>.tree kd ag sz rows (match foc with
  | some x=>some (x.1,x.2.map (CV.BW m))
  | none=>none)
 | .pmap n1 sz n rows foc=>.pmap n1 sz n rows (match foc with
  | some x=>some (x.1,m x.2)
  | none=>none)
 | .part c ag sz rows=>.part c ag sz rows
 | .gone=>.gone
 | .rnd r sl=>.rnd r (sl.map fun x=>(x.1,x.2.BW m))
 | .rndX j=>.rndX j
def Ci {α:Type}(p:α→Bool):List α→Bool
 | []=>true
 | x::r=>match p x with
  | true=>Ci p r
  | false=>false
theorem Ba {α:Type}{p:α→Bool}{l:List α}:Ci p l=true↔∀x∈l,p x=true:=by
 induction l with
 | nil=>simp[Ci]
 | cons x l ih=>
  unfold Ci
  cases h:p x<;>simp[h,ih]
abbrev Af:=Nat→AV
def Ay:List (Nat×AV)→Af
 | [],_=>.u
 | (k,v)::r,t=>match Nat.beq k t with
  | true=>v
  | false=>Ay r t
theorem Kx {m:Id→Id}:∀{sl:List (Nat×AV)}{t:Nat},Ay (sl.map fun x=>(x.1,x.2.BW m)) t=(Ay sl t).BW m
 | [],t=>rfl
 | (k,v)::r,t=>by
  show (match Nat.beq k t with | true=>v.BW m | false=>Ay (r.map fun x=>(x.1,x.2.BW m)) t)=(match Nat.beq k t with | true=>v | false=>Ay r t).BW m
  cases Nat.beq k t with
  | true=>rfl
  | false=>exact Kx (sl:=r)
abbrev Ac:=Id→Value
abbrev Heap:=Id→Option AQ
def DG:Value→Nat→Value
 | .pointer (some a),o=>.pointer (some ⟨a.block,o,none⟩)
 | v,_=>v
def Xn:Value→Nat→Value
 | .pointer (some a),n=>.slice (some ⟨a.block,0,none⟩) n n
 | v,_=>v
def GB:Value→Prop
 | .slice _ _ _=>True
 | _=>False
def Bi (v:Value) (b:Nat):Prop:=blk v=some b∨∃vs:Array Value,v= .tuple vs∧∃k:Nat,vs[k+1]?=some (.int .i64 (b:Int))
def isTu (v:Value):Prop:=∃(vs:Array Value) (x:Value),v= .tuple vs∧vs[0]?=some x
def gval:Value→Value
 | .tuple vs=>vs.getD 0 undef
 | v=>v
def Ce (u v:Value):Prop:=v=u∨(isTu u∧isTu v∧gval v=gval u)
theorem Ce.refl (u:Value):Ce u u:=.inl rfl
theorem Ce.trans {a b c:Value}(h:Ce a b) (k:Ce b c):Ce a c:=by
 rcases h with rfl | ⟨h1,h2,h3⟩
 ·exact k
 ·rcases k with rfl | ⟨k1,k2,k3⟩
  ·exact .inr ⟨h1,h2,h3⟩
  ·exact .inr ⟨h1,k2,k3.trans h3⟩
def isLive:Option AQ→Bool
 | some (.tree ..)=>true
 | some (.pmap ..)=>true
 | some (.part ..)=>true
 | _=>false
def BM (w:World) (Z:Av) (g:Ac) (h:Heap):CV→Value→Prop
 | .un,v=>v.oneCell'=true
 | .d x,v=>Aj w Z x v∧x.isAgg=false
 | .ptr i o,v=>(∃b,g i= .pointer (some ⟨b,0,none⟩))∧v=DG (g i) o
 | .row ag sz x,v=>x.fits ag sz∧∃b o,v= .pointer (some ⟨b,o,none⟩)∧∃U:Nat→Value,∀(j:Nat) c,x.cells[j]?=some c→w.cell? ⟨b,o+j,none⟩=some (U j)∧¬Z b (o+j)∧Aj w Z c (U j)
 | .rp cs,v=>(∀c∈cs,c.isAgg=false)∧∃b o,v= .pointer (some ⟨b,o,none⟩)∧∃U:Nat→Value,∀(j:Nat) c,cs[j]?=some c→w.cell? ⟨b,o+j,none⟩=some (U j)∧¬Z b (o+j)∧Aj w Z c (U j)
 | .nilp,v=>v= .pointer none
 | .fn f cap,v=>v= .func (.func f) #[] (cap.map (fun i=>DG (g i) 0)).toArray∧∀i∈cap,∃b,g i= .pointer (some ⟨b,0,none⟩)
 | .nilf,v=>v= .nilFunc
 | .nils _ _,v=>v= .slice none 0 0
 | .tl ag sz rows,v=>Aj w Z (.list ag sz rows) v∧∃a,v= .slice a rows.length rows.length
 | .lst i ag sz rows,v=>Aj w Z (.list ag sz rows) v∧GB (g i)∧∀n sz' e,h i=some (.tok n sz' e)→sz'=sz∧rows.length≤n∧(rows.length=n→v=g i)
 | .sl i n,v=>(∃b,g i= .pointer (some ⟨b,0,none⟩))∧v=Xn (g i) n
 | .map i,v=>v=g i∧∃r,g i= .map (some r)
 | .nilm,v=>v= .map none
 | .ap i base sz k o,v=>(∃b,g i= .pointer (some ⟨b,0,none⟩))∧v=DG (g i) (base+(k*sz+o))
 | .ow i,v=>v.oneCell'=true∧isTu (g i)∧(isLive (h i)=true→v=gval (g i))
 | .op i sz k o,v=>v.oneCell'=true∧isTu (g i)∧(isLive (h i)=true→∃b,blk (gval (g i))=some b∧v= .pointer (some ⟨b,k*sz+o,none⟩))
 | .yl i,v=>∃l,g i= .map (some l)∧v= .func (.yield l) #[] #[]
 | .bm f i,v=>(∃b,g i= .pointer (some ⟨b,0,none⟩))∧v= .func (.func f) #[DG (g i) 0] #[]
def BE (w:World) (Z:Av) (g:Ac) (h:Heap):V1→Value→Prop
 | .d x,v=>Aj w Z x v
 | .c x,v=>BM w Z g h x v
 | .agg cs,v=>∃vs:Array Value,v= .agg vs∧vs.size=cs.length∧∀(j:Nat) c u,cs[j]?=some c→vs[j]?=some u→BM w Z g h c u
def BG (w:World) (Z:Av) (g:Ac) (h:Heap):AV→Value→Prop
 | .u,_=>True
 | .v x,v=>BE w Z g h x v
 | .t xs,v=>∃vs:Array Value,v= .tuple vs∧vs.size=xs.length∧∀(j:Nat) c u,xs[j]?=some c→vs[j]?=some u→BE w Z g h c u
def G7 (w:World) (Z:Av) (c:Nat) (ag:Bool) (sz:Nat) (rows:List D) (v:Value) (S:Nat→Prop):Prop:=
 0<sz∧(∀r∈rows,r.fits ag sz)∧∃(a:Option Addr) (cap b o:Nat),v= .slice a (c+rows.length) cap∧c+rows.length≤cap∧cap≤maxLen∧(0<c+rows.length→a=some ⟨b,o,none⟩)∧
  ∃(U:Nat→Nat→Value) (T:Nat→Nat→Nat→Prop),
   (∀(i:Nat) r (j:Nat) d,rows[i]?=some r→r.cells[j]?=some d→w.cell? ⟨b,o+((c+i)*sz+j),none⟩=some (U i j)∧¬Z b (o+((c+i)*sz+j))∧B9 w d (U i j) (T i j))∧
   (∀i j b,T i j b→∃r d,rows[i]?=some r∧r.cells[j]?=some d)∧(∀i j i' j' b,T i j b→T i' j' b→i=i'∧j=j')∧∀b,S b↔∃i j,T i j b
def KZ (w:World) (Z:Av) (c1:List D) (sz:Nat) (L:List D) (b:Nat):Prop:=(∀r∈L,r.fits true sz)∧∃c e,w.heap[b]?=some (.cells c e (0,0))∧c.size=c1.length+L.length*sz∧
 (∀(j:Nat) x u,c1[j]?=some x→c[j]?=some u→Aj w Z x u∧x.isAgg=false)∧∀(i:Nat) r (j:Nat) x,L[i]?=some r→r.cells[j]?=some x→∃u,c[c1.length+(i*sz+j)]?=some u∧Aj w Z x u
theorem KZ.mono {w w':World}{Z Z':Av}{c1:List D}{sz:Nat}{L:List D}{b:Nat}(h:KZ w Z c1 sz L b) (hb:w'.heap[b]?=w.heap[b]?) (hD:∀{x:D}{v:Value},Aj w Z x v→Aj w' Z' x v):KZ w' Z' c1 sz L b:=by
 obtain⟨h0,c,e,h1,h2,h3,h4⟩:=h
 exact⟨h0,c,e,by rw[hb];exact h1,h2,fun j x u hx hu=>⟨hD (h3 j x u hx hu).1,(h3 j x u hx hu).2⟩,fun i r j x hr hx=>(h4 i r j x hr hx).imp fun u q=>⟨q.1,hD q.2⟩⟩
def ES (m:Array MapEntry) (clock:Nat):Prop:=(∀e∈m,e.born<clock)∧(m.toList.map (·.born)).Nodup
def Bd (w:World) (Z:Av) (g:Ac) (h:Heap):AQ→Value→Prop
 | .cells cs,gv=>∃b c e,gv= .pointer (some ⟨b,0,none⟩)∧w.heap[b]?=some (.cells c e (0,0))∧c.size=cs.length∧
   ∀(j:Nat) x u,cs[j]?=some x→c[j]?=some u→BM w Z g h x u
 | .tok n sz e,gv=>0<sz∧∃xs,w.ownsRow 0 e sz gv n xs
 | .map _ _ es,gv=>∃r m clock,gv= .map (some r)∧w.heap[r]?=some (.map m clock)∧ES m clock∧Cv m.toList es
 | .arr cs1 ag sz rows cs2,gv=>(∀r∈rows,r.fits ag sz)∧∃b c e,gv= .pointer (some ⟨b,0,none⟩)∧w.heap[b]?=some (.cells c e (0,0))∧c.size=cs1.length+rows.length*sz+cs2.length∧
   (∀(j:Nat) x u,cs1[j]?=some x→c[j]?=some u→BM w Z g h x u)∧
   (∀(i:Nat) r (j:Nat) x,rows[i]?=some r→r.cells[j]?=some x→∃u,c[cs1.length+(i*sz+j)]?=some u∧Aj w Z x u)∧
   (∀(j:Nat) x u,cs2[j]?=some x→c[cs1.length+rows.length*sz+j]?=some u→BM w Z g h x u)
 | .tree kd ag sz rows foc,gv=>isTu gv∧0<sz∧(∀r∈rows,r.fits ag sz)∧∃xs,Holds w kd sz (gval gv) rows.length xs∧
   (∀k cs,foc=some (k,cs)→k<rows.length∧cs.length=sz∧∀(j:Nat) c u,cs[j]?=some c→xs[k*sz+j]?=some u→BM w Z g h c u)∧
   ∃(U:Nat→Nat→Value) (T:Nat→Nat→Nat→Prop),
    (∀(i:Nat) r (j:Nat) c,(∀k cs,foc=some (k,cs)→i≠k)→rows[i]?=some r→r.cells[j]?=some c→xs[i*sz+j]?=some (U i j)∧C0 w Z kd c (U i j) (T i j))∧
    (∀i j b,T i j b→(∀k cs,foc=some (k,cs)→i≠k)∧∃r c,rows[i]?=some r∧r.cells[j]?=some c)∧(∀i j b,T i j b→blk (gval gv)≠some b)∧
    (∀i j i' j' b,T i j b→T i' j' b→i=i'∧j=j')∧∀b,Bi gv b↔blk (gval gv)=some b∨∃i j,T i j b
 | .pmap n1 sz n rows foc,gv=>isTu gv∧∃(r:Nat) (m:Array MapEntry) (clock:Nat) (B:Nat→Nat),gval gv= .map (some r)∧w.heap[r]?=some (.map m clock)∧m.size=rows.length∧(∀e∈m,e.born<clock)∧
   (∀(k:Nat) x e,rows[k]?=some x→m[k]?=some e→e.key= .int .i64 x.1∧e.val= .pointer (some ⟨B k,0,none⟩))∧
   (∀(k:Nat) j,foc=some (k,j)→k<rows.length∧g j= .pointer (some ⟨B k,0,none⟩))∧
   (∀(k:Nat) x,rows[k]?=some x→(∀j,foc≠some (k,j))→KZ w Z x.2.1 sz x.2.2 (B k))∧
   (∀i k,i<rows.length→k<rows.length→B i=B k→i=k)∧(∀k,k<rows.length→B k≠r)∧
   ∀b,Bi gv b↔b=r∨∃k,k<rows.length∧(∀j,foc≠some (k,j))∧b=B k
 | .part c ag sz rows,gv=>isTu gv∧G7 w Z c ag sz rows (gval gv) (Bi gv)
 | .gone,_=>True
 | .rnd r sl,gv=>∃l L,gv= .map (some l)∧w.heap[l]?=some (.loop L)∧L.state= .ready∧L.pending=none∧L.params=(r ()).params∧L.assign=(r ()).assign∧L.body=(r ()).body∧L.tmps.size=(r ()).nt∧
   ∀t,BG w Z g h (Ay sl t) (L.tmps.getD t undef)
 | .rndX j,gv=>∃l L,gv= .map (some l)∧w.heap[l]?=some (.loop L)∧L.state= .done∧L.pending=some (match j with | none=>.ret | some id=>.exit id)
def Bg (gv:Value) (ob:AQ):Av:=fun b o=>match ob with | .tok n sz _=>Bi gv b∧n*sz≤o | .gone=>False | _=>Bi gv b
def ET (gv:Value) (ob:AQ) (b:Nat):Prop:=match ob with | .gone=>False | _=>Bi gv b
theorem ET.blk {gv:Value}{ob:AQ}{b:Nat}(h:ET gv ob b):Bi gv b:=by cases ob<;>first | exact h | exact h.elim
theorem Bg.G4 {gv:Value}{ob:AQ}{b o:Nat}(h:Bg gv ob b o):ET gv ob b:=by cases ob<;>first | exact h | exact h.1
theorem ET.zone {gv:Value}{ob:AQ}{b:Nat}(h:ET gv ob b):∃o,Bg gv ob b o:=by
 cases ob with
 | tok n sz e=>exact⟨n*sz,h,Nat.le_refl _⟩
 | gone=>exact h.elim
 | _=>exact⟨0,h⟩
def zone (g:Ac) (h:Heap):Av:=fun b o=>∃i ob,h i=some ob∧Bg (g i) ob b o
def BN (Z X:Av):Av:=fun b o=>Z b o∨X b o
structure Db (w:World) (X:Av) (g:Ac) (h:Heap):Prop where
 objs:∀i o,h i=some o→Bd w (BN (zone g h) X) g h o (g i)
 sep:∀i j oi oj b,h i=some oi→h j=some oj→ET (g i) oi b→ET (g j) oj b→i=j
 apart:∀i oi b o,h i=some oi→ET (g i) oi b→¬X b o
structure Bl (Z:Av) (w w':World):Prop where
 os:w'.os=w.os
 tape:w'.tape=w.tape
 output:w'.output=w.output
 size:w.heap.size≤w'.heap.size
 block:∀b,b<w.heap.size→(∀o,¬Z b o)→w'.heap[b]?=w.heap[b]?
 cell:∀b o u,w.cell? ⟨b,o,none⟩=some u→¬Z b o→w'.cell? ⟨b,o,none⟩=some u
theorem Bl.refl (Z:Av) (w:World):Bl Z w w:=⟨rfl,rfl,rfl,Nat.le_refl _,fun _ _ _=>rfl,fun _ _ _ h _=>h⟩
theorem Bl.trans {Z:Av}{a b c:World}(h:Bl Z a b) (k:Bl Z b c):Bl Z a c:=
  ⟨k.os.trans h.os,k.tape.trans h.tape,k.output.trans h.output,Nat.le_trans h.size k.size,
   fun i hi hz=>(k.block i (Nat.lt_of_lt_of_le hi h.size) hz).trans (h.block i hi hz),fun i o u hu hz=>k.cell i o u (h.cell i o u hu hz) hz⟩
theorem Bl.weaken {Z Z':Av}{a b:World}(h:Bl Z a b) (hz:∀b o,Z b o→Z' b o):Bl Z' a b:=
 ⟨h.os,h.tape,h.output,h.size,fun i hi hn=>h.block i hi (fun o hz'=>hn o (hz _ _ hz')),fun i o u hu hn=>h.cell i o u hu (fun hz'=>hn (hz _ _ hz'))⟩
structure Inv where
 blocks:Nat→Prop
 rel:World→Prop
 same:∀{w w':World},(∀b,blocks b→w'.heap[b]?=w.heap[b]?)→rel w→rel w'
def Inv.at (I:Inv) (w:World) (Z:Av):Prop:=I.rel w∧∀b,I.blocks b→b<w.heap.size∧∀o,¬Z b o
theorem Inv.at.mono {I:Inv}{w:World}{Z Z':Av}(h:I.at w Z) (hz:∀b o,Z' b o→Z b o):I.at w Z':=⟨h.1,fun b hb=>⟨(h.2 b hb).1,fun o ho=>(h.2 b hb).2 o (hz b o ho)⟩⟩
def Inv.none:Inv:=⟨fun _=>False,fun _=>True,fun _ _=>trivial⟩
structure BS where
 P:Program
 I:Inv
 split:Bool→(Bool→Prop)→Prop
 split_iff:∀c A,split c A↔A c
 lock:(Unit→Prop)→Prop
 lock_iff:∀p,lock p↔p ()
 eqI:Int→Int→Bool
 eqI_eq:∀a b,eqI a b=(a==b)
 ltI:Int→Int→Bool
 ltI_eq:∀a b,ltI a b=decide (a<b)
 leI:Int→Int→Bool
 leI_eq:∀a b,leI a b=decide (a≤b)
 eqS:ByteArray→ByteArray→Bool
 eqS_eq:∀a b,eqS a b=(a.toList==b.toList)
 ltS:ByteArray→ByteArray→Bool
 ltS_eq:∀a b,ltS a b=Op.bytesLess a.toList b.toList
 lenI:List D→Int
 lenI_eq:∀l,lenI l=(l.length:Int)
 szI:ByteArray→Int
 szI_eq:∀s,szI s=(s.size:Int)
def BZ:Option Nat→Fence
 | none=>Fence.wide
 | some l=>Fence.wide.inRound l
def GC (r:Nat):Deferred:={target:=.collected r,args:=#[]}
structure Cx where
 M:BS
 nt:Nat
 w0:World
 Z0:Av
 X:Av
 g0:Ac
 hinv:M.I.at w0 (BN Z0 X)
 ro:Option Nat
 D:List Nat
 hro:∀l,ro=some l→(∃L,w0.heap[l]?=some (.loop L))∧∀o,¬Z0 l o
 hD:∀r∈D,w0.heap[r]?=some (.deferred (some []))∧∀o,¬Z0 r o
 hDn:D.Nodup
abbrev Cx.P (C:Cx):Program:=C.M.P
structure Ap (C:Cx) (F:Nat→Prop) (s:Af) (h:Heap) (g:Ac) (a:Act) (w:World):Prop where
 size:a.tmps.size=C.nt
 defers:a.defers=C.D.map GC
 slots:∀t,BG w (BN (zone g h) C.X) g h (s t) (a.tmps.getD t undef)
 heap:Db w C.X g h
 frame:Bl C.Z0 C.w0 w
 ext:∀j,Ce (C.g0 (.ext j)) (g (.ext j))
 within:∀i ob b o,h i=some ob→Bg (g i) ob b o→C.Z0 b o∨C.w0.heap.size≤b
 xs:∀b o,C.X b o→b<C.w0.heap.size
 free:∀n,F n→g (.loc n)=undef∧h (.loc n)=none
theorem Ap.inv {C:Cx}{F:Nat→Prop}{s:Af}{h:Heap}{g:Ac}{a:Act}{w:World}(R:Ap C F s h g a w):C.M.I.at w (BN (zone g h) C.X):=by
 obtain⟨h1,h2⟩:=C.hinv
 refine⟨C.M.I.same (fun b hb=>?_) h1,fun b hb=>⟨Nat.lt_of_lt_of_le (h2 b hb).1 R.frame.size,?_⟩⟩
 ·exact R.frame.block b (h2 b hb).1 (fun o hz=>(h2 b hb).2 o (.inl hz))
 ·rintro o (⟨i,ob,hi,hz⟩ | hx)
  ·rcases R.within i ob b o hi hz with hz | hz
   ·exact (h2 b hb).2 o (.inl hz)
   ·have:=(h2 b hb).1
    omega
  ·exact (h2 b hb).2 o (.inr hx)
def Rel (C:Cx) (F:Nat→Prop) (s:Af) (h:Heap) (a:Act) (w:World):Prop:=∃g,Ap C F s h g a w
end Go.AM
namespace Go.AM
open Go Go.RowKit
structure IM (w:World) (Z:Av) (g:Ac) (h:Heap) (w':World) (Z':Av) (g':Ac) (h':Heap):Prop where
 cell:∀b o u,w.cell? ⟨b,o,none⟩=some u→¬Z b o→w'.cell? ⟨b,o,none⟩=some u∧¬Z' b o
 ptr:∀i b,g i= .pointer (some ⟨b,0,none⟩)→g' i=g i
 map:∀i r,g i= .map (some r)→g' i=g i
 sl:∀i,GB (g i)→GB (g' i)
 tok:∀i n sz e,GB (g i)→h' i=some (.tok n sz e)→∃n0,n0≤n∧h i=some (.tok n0 sz e)∧(n0=n→g' i=g i)
 ow:∀i,isTu (g i)→isTu (g' i)
 own:∀i,isTu (g i)→isLive (h' i)=true→isLive (h i)=true∧gval (g' i)=gval (g i)
section
variable {w w':World}{Z Z':Av}{g g':Ac}{h h':Heap}
theorem IM.G5 (E:IM w Z g h w' Z' g' h') {x:D}{v:Value}(r:Aj w Z x v):Aj w' Z' x v:=r.mono E.cell
theorem IM.Vq (E:IM w Z g h w' Z' g' h') {i:Id}{v:Value}(r:∃l,g i= .map (some l)∧v= .func (.yield l) #[] #[]):∃l,g' i= .map (some l)∧v= .func (.yield l) #[] #[]:=by
 obtain⟨l,hl,hv⟩:=r
 exact⟨l,by rw[E.map i l hl];exact hl,hv⟩
theorem IM.KY (E:IM w Z g h w' Z' g' h') {c:CV}{v:Value}(r:BM w Z g h c v):BM w' Z' g' h' c v:=by
 cases c with
 | un=>exact r
 | d x=>exact⟨E.G5 r.1,r.2⟩
 | ptr i o=>
  obtain⟨⟨b,hb⟩,hv⟩:=r
  have e:=E.ptr i b hb
  exact⟨⟨b,by rw[e];exact hb⟩,by rw[e];exact hv⟩
 | row ag sz x=>
  obtain⟨hf,b,o,hv,U,hU⟩:=r
  exact⟨hf,b,o,hv,U,fun j c hc=>⟨(E.cell _ _ _ (hU j c hc).1 (hU j c hc).2.1).1,(E.cell _ _ _ (hU j c hc).1 (hU j c hc).2.1).2,E.G5 (hU j c hc).2.2⟩⟩
 | rp cs=>
  obtain⟨hf,b,o,hv,U,hU⟩:=r
  exact⟨hf,b,o,hv,U,fun j c hc=>⟨(E.cell _ _ _ (hU j c hc).1 (hU j c hc).2.1).1,(E.cell _ _ _ (hU j c hc).1 (hU j c hc).2.1).2,E.G5 (hU j c hc).2.2⟩⟩
 | nilp=>exact r
 | fn f cap=>
  obtain⟨hv,hc⟩:=r
  refine⟨?_,fun i hi=>?_⟩
  ·rw[hv]
   congr 2
   refine List.map_congr_left fun i hi=>?_
   obtain⟨b,hb⟩:=hc i hi
   rw[E.ptr i b hb]
  ·obtain⟨b,hb⟩:=hc i hi
   exact⟨b,by rw[E.ptr i b hb];exact hb⟩
 | nilf=>exact r
 | nils ag sz=>exact r
 | tl ag sz rows=>exact⟨E.G5 r.1,r.2⟩
 | lst i ag sz rows=>
  obtain⟨hd,hs,ht⟩:=r
  refine⟨E.G5 hd,E.sl i hs,fun n sz' e hn=>?_⟩
  obtain⟨n0,hle,h0,heq⟩:=E.tok i n sz' e hs hn
  obtain⟨h1,h2,h3⟩:=ht n0 sz' e h0
  exact⟨h1,Nat.le_trans h2 hle,fun hl=>by
   have:n0=n:=by omega
   rw[heq this];exact h3 (by omega)⟩
 | sl i n=>
  obtain⟨⟨b,hb⟩,hv⟩:=r
  have e:=E.ptr i b hb
  exact⟨⟨b,by rw[e];exact hb⟩,by rw[e];exact hv⟩
 | map i=>
  obtain⟨hv,m,hm⟩:=r
  have e:=E.map i m hm
  exact⟨by rw[e];exact hv,m,by rw[e];exact hm⟩
 | nilm=>exact r
 | ap i base sz k o=>
  obtain⟨⟨b,hb⟩,hv⟩:=r
  have e:=E.ptr i b hb
  exact⟨⟨b,by rw[e];exact hb⟩,by rw[e];exact hv⟩
 | ow i=>
  obtain⟨h1,h2,h3⟩:=r
  refine⟨h1,E.ow i h2,fun hm=>?_⟩
  obtain⟨h0,heq⟩:=E.own i h2 hm
  rw[heq];exact h3 h0
 | op i sz k o=>
  obtain⟨h1,h2,h3⟩:=r
  refine⟨h1,E.ow i h2,fun hm=>?_⟩
  obtain⟨h0,heq⟩:=E.own i h2 hm
  rw[heq];exact h3 h0
 | yl i=>exact E.Vq r
 | bm f i=>
  obtain⟨⟨b,hb⟩,hv⟩:=r
  have e:=E.ptr i b hb
  exact⟨⟨b,by rw[e];exact hb⟩,by rw[e];exact hv⟩
theorem IM.WZ (E:IM w Z g h w' Z' g' h') {c:V1}{v:Value}(r:BE w Z g h c v):BE w' Z' g' h' c v:=by
 cases c with
 | d x=>exact E.G5 r
 | c x=>exact E.KY r
 | agg cs=>
  obtain⟨vs,hv,hs,hr⟩:=r
  exact⟨vs,hv,hs,fun j c u hc hu=>E.KY (hr j c u hc hu)⟩
theorem IM.Pw (E:IM w Z g h w' Z' g' h') {c:AV}{v:Value}(r:BG w Z g h c v):BG w' Z' g' h' c v:=by
 cases c with
 | u=>trivial
 | v x=>exact E.WZ r
 | t cs=>
  obtain⟨vs,hv,hs,hr⟩:=r
  exact⟨vs,hv,hs,fun j c u hc hu=>E.WZ (hr j c u hc hu)⟩
theorem Nh {e:TypeId}{sz:Nat}{v:Value}{n:Nat}{xs:List Value}(h:w.ownsRow 0 e sz v n xs)
  (hb:∀b,Bi v b→w'.heap[b]?=w.heap[b]?):w'.ownsRow 0 e sz v n xs:=by
 obtain⟨h1,h2⟩:=h
 refine⟨h1,?_⟩
 rcases h2 with h2 | ⟨q,cap,cur,hv,hg,hh,r⟩
 ·exact .inl h2
 ·exact .inr ⟨q,cap,cur,hv,hg,by rw[hb q (by rw[hv];exact .inl rfl)];exact hh,r⟩
theorem Holds.same {k:Kd}{sz:Nat}{v:Value}{n:Nat}{xs:List Value}(h:Holds w k sz v n xs) (hb:∀b,blk v=some b→w'.heap[b]?=w.heap[b]?):Holds w' k sz v n xs:=by
 cases k with
 | row=>
  obtain⟨e,h1,h2⟩:=h
  refine⟨e,h1,?_⟩
  rcases h2 with h2 | ⟨q,cap,cur,hv,hg,hh,r⟩
  ·exact .inl h2
  ·exact .inr ⟨q,cap,cur,hv,hg,by rw[hb q (by rw[hv];rfl)];exact hh,r⟩
 | flat=>
  obtain⟨e,h1,h2⟩:=h
  refine⟨e,h1,?_⟩
  rcases h2 with h2 | ⟨q,cap,cur,hv,hg,hh,r⟩
  ·exact .inl h2
  ·exact .inr ⟨q,cap,cur,hv,hg,by rw[hb q (by rw[hv];rfl)];exact hh,r⟩
 | box=>
  obtain⟨h1,b,c,e,hv,hh,r⟩:=h
  exact⟨h1,b,c,e,hv,by rw[hb b (by rw[hv];rfl)];exact hh,r⟩
 | map=>
  obtain⟨r,m,cl,hv,hh,q⟩:=h
  exact⟨r,m,cl,hv,by rw[hb r (by rw[hv];rfl)];exact hh,q⟩
 | fmap b'=>
  obtain⟨r,m,cl,hv,hh,q⟩:=h
  exact⟨r,m,cl,hv,by rw[hb r (by rw[hv];rfl)];exact hh,q⟩
theorem Holds.lt {k:Kd}{sz:Nat}{v:Value}{n:Nat}{xs:List Value}(h:Holds w k sz v n xs) {b:Nat}(hb:blk v=some b):b<w.heap.size:=by
 cases k with
 | row=>
  obtain⟨e,h1,h2⟩:=h
  rcases h2 with⟨hv,_⟩ | ⟨q,cap,cur,hv,hg,hh,_⟩
  ·rw[hv]at hb;simp[blk]at hb
  ·rw[hv]at hb
   simp[blk]at hb
   subst hb
   exact (Array.getElem?_eq_some_iff.1 hh).1
 | flat=>
  obtain⟨e,h1,h2⟩:=h
  rcases h2 with⟨hv,_⟩ | ⟨q,cap,cur,hv,hg,hh,_⟩
  ·rw[hv]at hb;simp[blk]at hb
  ·rw[hv]at hb
   simp[blk]at hb
   subst hb
   exact (Array.getElem?_eq_some_iff.1 hh).1
 | box=>
  obtain⟨h1,q,c,e,hv,hh,r⟩:=h
  rw[hv]at hb
  simp[blk]at hb
  subst hb
  exact (Array.getElem?_eq_some_iff.1 hh).1
 | map=>
  obtain⟨r,m,cl,hv,hh,q⟩:=h
  rw[hv]at hb
  simp[blk]at hb
  subst hb
  exact (Array.getElem?_eq_some_iff.1 hh).1
 | fmap b'=>
  obtain⟨r,m,cl,hv,hh,q⟩:=h
  rw[hv]at hb
  simp[blk]at hb
  subst hb
  exact (Array.getElem?_eq_some_iff.1 hh).1
theorem Holds.Bw {k:Kd}{sz:Nat}{v:Value}{n:Nat}{xs:List Value}(h:Holds w k sz v n xs):v.oneCell'=true:=by
 cases k with
 | row=>
  obtain⟨e,h1,h2⟩:=h
  rcases h2 with⟨hv,_⟩ | ⟨q,cap,cur,hv,_⟩<;>rw[hv]<;>rfl
 | flat=>
  obtain⟨e,h1,h2⟩:=h
  rcases h2 with⟨hv,_⟩ | ⟨q,cap,cur,hv,_⟩<;>rw[hv]<;>rfl
 | box=>obtain⟨h1,q,c,e,hv,_⟩:=h;rw[hv];rfl
 | map=>obtain⟨r,m,cl,hv,_⟩:=h;rw[hv];rfl
 | fmap b'=>obtain⟨r,m,cl,hv,_⟩:=h;rw[hv];rfl
theorem M4 {m:List MapEntry}{sz:Nat}(h:∀e∈m,e.val.cells.size+1=sz):(m.flatMap fun e=>e.key::e.val.cells.toList).length=m.length*sz:=by
 induction m with
 | nil=>simp
 | cons e m ih=>
  rw[List.flatMap_cons,List.length_append,ih (fun x hx=>h x (by simp[hx]))]
  have:=h e (by simp)
  simp[Nat.add_mul]
  omega
theorem Holds.len {k:Kd}{sz:Nat}{v:Value}{n:Nat}{xs:List Value}(h:Holds w k sz v n xs):xs.length=n*sz:=by
 cases k with
 | row=>obtain⟨e,h1,h2⟩:=h;exact h1
 | flat=>obtain⟨e,h1,h2⟩:=h;exact h1
 | box=>obtain⟨rfl,q,c,e,hv,hh,rfl,hs⟩:=h;simp[hs]
 | map=>
  obtain⟨r,m,cl,hv,hh,hn,_,hs,rfl⟩:=h
  rw[←hn]
  exact M4 (fun e he=>hs e (Array.mem_toList_iff.1 he))
 | fmap b'=>
  obtain⟨r,m,cl,hv,hh,hn,_,hs,_,rfl⟩:=h
  rw[←hn]
  exact M4 (fun e he=>hs e (Array.mem_toList_iff.1 he))
theorem B9.same {x:D}{v:Value}{S:Nat→Prop}(r:B9 w x v S) (hb:∀b,S b→w'.heap[b]?=w.heap[b]?):B9 w' x v S:=by
 induction r with
 | int k n=>exact .int k n
 | bool b=>exact .bool b
 | str s=>exact .str s
 | nil=>exact .nil
 | con k ag sz rows x v xs U T S hcon hsz hfit hx hU hr hT hd1 hd2 hS ih=>
  exact .con k ag sz rows x v xs U T S hcon hsz hfit (hx.same fun b h=>hb b ((hS b).2 (.inl h))) hU (fun i r j c h1 h2=>ih i r j c h1 h2 (fun b hT'=>hb b ((hS b).2 (.inr ⟨i,j,hT'⟩)))) hT hd1 hd2 hS
theorem B9.lt {x:D}{v:Value}{S:Nat→Prop}(r:B9 w x v S):∀b,S b→b<w.heap.size:=by
 induction r with
 | int k n=>intro b h;exact h.elim
 | bool b=>intro b h;exact h.elim
 | str s=>intro b h;exact h.elim
 | nil=>intro b h;exact h.elim
 | con k ag sz rows x v xs U T S hcon hsz hfit hx hU hr hT hd1 hd2 hS ih=>
  intro b hb
  rcases (hS b).1 hb with h1 | ⟨i,j,h1⟩
  ·exact hx.lt h1
  ·obtain⟨r,c,h2,h3⟩:=hT i j b h1
   exact ih i r j c h2 h3 b h1
theorem C0.lt {k:Kd}{Z:Av}{x:D}{v:Value}{S:Nat→Prop}(r:C0 w Z k x v S):∀b,S b→b<w.heap.size:=by
 cases hk:k.Jf with
 | true=>exact fun b h=>(((C0.fz hk).1 r).2 b h).elim
 | false=>exact B9.lt ((C0.own hk).1 r)
theorem G7.mono {c:Nat}{ag:Bool}{sz:Nat}{rows:List D}{v:Value}{S:Nat→Prop}(r:G7 w Z c ag sz rows v S) (hw:∀b o u,w.cell? ⟨b,o,none⟩=some u→¬Z b o→w'.cell? ⟨b,o,none⟩=some u∧¬Z' b o)
  (hb:∀b,S b→w'.heap[b]?=w.heap[b]?):G7 w' Z' c ag sz rows v S:=by
 obtain⟨h0,hf,a,cap,b,o,hv,h1,h2,h3,U,T,h4,h5,h6,h7⟩:=r
 refine⟨h0,hf,a,cap,b,o,hv,h1,h2,h3,U,T,fun i r j d hr hd=>?_,h5,h6,h7⟩
 obtain⟨g1,g2,g3⟩:=h4 i r j d hr hd
 obtain⟨k1,k2⟩:=hw _ _ _ g1 g2
 exact⟨k1,k2,g3.same fun b hT=>hb b ((h7 b).2 ⟨i,j,hT⟩)⟩
theorem G7.lt {c:Nat}{ag:Bool}{sz:Nat}{rows:List D}{v:Value}{S:Nat→Prop}(r:G7 w Z c ag sz rows v S):∀b,S b→b<w.heap.size:=by
 obtain⟨h0,hf,a,cap,b,o,hv,h1,h2,h3,U,T,h4,h5,h6,h7⟩:=r
 intro b' hb
 obtain⟨i,j,hT⟩:=(h7 b').1 hb
 obtain⟨r,d,hr,hd⟩:=h5 i j b' hT
 exact (h4 i r j d hr hd).2.2.lt b' hT
theorem Bd.Yx (E:IM w Z g h w' Z' g' h') {o:AQ}{gv:Value}(r:Bd w Z g h o gv)
  (hb:∀b,ET gv o b→w'.heap[b]?=w.heap[b]?):Bd w' Z' g' h' o gv:=by
 cases o with
 | cells cs=>
  obtain⟨b,c,e,hv,hh,hs,hr⟩:=r
  exact⟨b,c,e,hv,by rw[hb b (by rw[hv];exact .inl rfl)];exact hh,hs,fun j x u hx hu=>E.KY (hr j x u hx hu)⟩
 | tok n sz e=>
  obtain⟨h0,xs,hx⟩:=r
  exact⟨h0,xs,Nh hx hb⟩
 | map kt et es=>
  obtain⟨q,m,cl,hv,hh,hbn,hr⟩:=r
  exact⟨q,m,cl,hv,by rw[hb q (by rw[hv];exact .inl rfl)];exact hh,hbn,hr⟩
 | arr cs1 ag sz rows cs2=>
  obtain⟨hf,b,c,e,hv,hh,hs,h1,h2,h3⟩:=r
  exact⟨hf,b,c,e,hv,by rw[hb b (by rw[hv];exact .inl rfl)];exact hh,hs,fun j x u hx hu=>E.KY (h1 j x u hx hu),
   fun i r j x hr hx=>(h2 i r j x hr hx).imp fun u q=>⟨q.1,E.G5 q.2⟩,fun j x u hx hu=>E.KY (h3 j x u hx hu)⟩
 | tree kd ag sz rows foc=>
  obtain⟨ht,h0,hf,xs,hx,hc,U,T,h1,h2,h3,h4,h5⟩:=r
  exact⟨ht,h0,hf,xs,hx.same fun b h=>hb b ((h5 b).2 (.inl h)),fun k cs hk=>⟨(hc k cs hk).1,(hc k cs hk).2.1,fun j c u hj hu=>E.KY ((hc k cs hk).2.2 j c u hj hu)⟩,U,T,
   fun i r j c hi hr hj=>⟨(h1 i r j c hi hr hj).1,(h1 i r j c hi hr hj).2.map E.G5 fun q=>B9.same q fun b hT=>hb b ((h5 b).2 (.inr ⟨i,j,hT⟩))⟩,h2,h3,h4,h5⟩
 | pmap n1 sz n rows foc=>
  obtain⟨ht,q,m,cl,B,hv,hh,hs,hbn,h1,h2,h3,h4,h5,h6⟩:=r
  refine⟨ht,q,m,cl,B,hv,by rw[hb q ((h6 q).2 (.inl rfl))];exact hh,hs,hbn,h1,fun k j hk=>⟨(h2 k j hk).1,by rw[E.ptr j (B k) (h2 k j hk).2];exact (h2 k j hk).2⟩,fun k x hx hk=>?_,h4,h5,h6⟩
  exact (h3 k x hx hk).mono (hb (B k) ((h6 _).2 (.inr ⟨k,(List.getElem?_eq_some_iff.1 hx).1,hk,rfl⟩))) E.G5
 | part c ag sz rows=>exact⟨r.1,r.2.mono E.cell hb⟩
 | gone=>trivial
 | rnd rf sl=>
  obtain⟨l,L,hv,hh,h1,h2,h3,h4,h5,h6,h7⟩:=r
  exact⟨l,L,hv,by rw[hb l (by rw[hv];exact .inl rfl)];exact hh,h1,h2,h3,h4,h5,h6,fun t=>E.Pw (h7 t)⟩
 | rndX j=>
  obtain⟨l,L,hv,hh,h1,h2⟩:=r
  exact⟨l,L,hv,by rw[hb l (by rw[hv];exact .inl rfl)];exact hh,h1,h2⟩
theorem Bi.sl {q o l cap b:Nat}(h:Bi (.slice (some ⟨q,o,none⟩) l cap) b):q=b:=by
 rcases h with h | ⟨vs,h,_⟩
 ·simpa [blk] using h
 ·cases h
theorem Bi.nil {b:Nat}(h:Bi (.slice none 0 0) b):False:=by
 rcases h with h | ⟨vs,h,_⟩
 ·simp[blk]at h
 ·cases h
theorem Bi.ptr {q o b:Nat}(h:Bi (.pointer (some ⟨q,o,none⟩)) b):q=b:=by
 rcases h with h | ⟨vs,h,_⟩
 ·simpa [blk] using h
 ·cases h
theorem Bi.map {q b:Nat}(h:Bi (.map (some q)) b):q=b:=by
 rcases h with h | ⟨vs,h,_⟩
 ·simpa [blk] using h
 ·cases h
theorem Bi.undef {b:Nat}(h:Bi undef b):False:=by
 rcases h with h | ⟨vs,h,_⟩
 ·simp[blk,Go.undef]at h
 ·simp only[Go.undef,Value.tuple.injEq]at h
  subst h
  rename_i k
  obtain⟨k,hk⟩:=k
  simp at hk
theorem Bi.Rr {v:Value}{b:Nat}(hs:GB v) (h:Bi v b):blk v=some b:=by
 rcases h with h | ⟨vs,h,_⟩
 ·exact h
 ·rw[h]at hs;exact hs.elim
theorem Ky {e:TypeId}{sz lo:Nat}{v:Value}{n:Nat}{xs:List Value}(h:w.ownsRow lo e sz v n xs):GB v:=by
 rcases h.2 with⟨h3,_⟩ | ⟨q,cap,cur,h3,_⟩<;>rw[h3]<;>trivial
theorem Be (h:isTu undef):False:=by
 obtain⟨vs,x,h,hx⟩:=h
 simp only[Go.undef,Value.tuple.injEq]at h
 subst h
 simp at hx
theorem Dm {v:Value}(k:GB v) (h:isTu v):False:=by obtain⟨_,_,h,_⟩:=h;rw[h]at k;exact k
theorem P3 {e:TypeId}{sz:Nat}{v:Value}{n:Nat}{xs:List Value}(h:w.ownsRow 0 e sz v n xs) {b:Nat}(hb:Bi v b):b<w.heap.size:=by
 obtain⟨_,h2⟩:=h
 rcases h2 with⟨hv,_⟩ | ⟨q,cap,cur,hv,hg,hh,_⟩
 ·rw[hv]at hb;exact hb.nil.elim
 ·rw[hv]at hb
  have:=hb.sl
  subst this
  exact (Array.getElem?_eq_some_iff.1 hh).1
theorem Bd.lt {o:AQ}{gv:Value}(r:Bd w Z g h o gv) {b:Nat}(hb:ET gv o b):b<w.heap.size:=by
 cases o with
 | cells cs=>
  obtain⟨b',c,e,hv,hh,_⟩:=r
  have hb:Bi gv b:=hb
  rw[hv]at hb
  have:=hb.ptr
  subst this
  exact (Array.getElem?_eq_some_iff.1 hh).1
 | tok n sz e=>
  obtain⟨_,xs,hx⟩:=r
  exact P3 hx hb
 | map kt et es=>
  obtain⟨q,m,cl,hv,hh,_⟩:=r
  have hb:Bi gv b:=hb
  rw[hv]at hb
  have:=hb.map
  subst this
  exact (Array.getElem?_eq_some_iff.1 hh).1
 | arr cs1 ag sz rows cs2=>
  obtain⟨_,b',c,e,hv,hh,_⟩:=r
  have hb:Bi gv b:=hb
  rw[hv]at hb
  have:=hb.ptr
  subst this
  exact (Array.getElem?_eq_some_iff.1 hh).1
 | tree kd ag sz rows foc=>
  obtain⟨ht,h0,hf,xs,hx,hc,U,T,h1,h2,h3,h4,h5⟩:=r
  rcases (h5 b).1 hb with h12 | ⟨i,j,h12⟩
  ·exact hx.lt h12
  ·obtain⟨hi,r,c,p1,p2⟩:=h2 i j b h12
   exact C0.lt (h1 i r j c hi p1 p2).2 b h12
 | pmap n1 sz n rows foc=>
  obtain⟨ht,q,m,cl,B,hv,hh,hs,hbn,h1,h2,h3,h4,h5,h6⟩:=r
  rcases (h6 b).1 hb with rfl | ⟨k,hk,hf,rfl⟩
  ·exact (Array.getElem?_eq_some_iff.1 hh).1
  ·obtain⟨_,c,e,g1,_⟩:=h3 k rows[k] (List.getElem?_eq_getElem hk) hf
   exact (Array.getElem?_eq_some_iff.1 g1).1
 | part c ag sz rows=>exact r.2.lt b hb
 | gone=>exact hb.elim
 | rnd rf sl=>
  obtain⟨l,L,hv,hh,_⟩:=r
  have hb:Bi gv b:=hb
  rw[hv]at hb
  have:=hb.map
  subst this
  exact (Array.getElem?_eq_some_iff.1 hh).1
 | rndX j=>
  obtain⟨l,L,hv,hh,_⟩:=r
  have hb:Bi gv b:=hb
  rw[hv]at hb
  have:=hb.map
  subst this
  exact (Array.getElem?_eq_some_iff.1 hh).1
theorem Db.dU {X:Av}(R:Db w X g h) (T:Id→Prop) (hX:∀b o,X b o→b<w.heap.size)
  (E:IM w (BN (zone g h) X) g h w' (BN (zone g' h') X) g' h')
  (hsame:∀i,¬T i→h' i=h i∧g' i=g i)
  (hworld:∀i o b,¬T i→h i=some o→ET (g i) o b→w'.heap[b]?=w.heap[b]?)
  (hobj:∀i o,T i→h' i=some o→Bd w' (BN (zone g' h') X) g' h' o (g' i))
  (hblk:∀i o b,T i→h' i=some o→ET (g' i) o b→(∃j o0,T j∧h j=some o0∧ET (g j) o0 b)∨w.heap.size≤b)
  (hsep:∀i j oi oj b,T i→T j→h' i=some oi→h' j=some oj→ET (g' i) oi b→ET (g' j) oj b→i=j):
  Db w' X g' h':=by
 have lt:∀i o b,h i=some o→ET (g i) o b→b<w.heap.size:=fun i o b ho hb=>(R.objs i o ho).lt hb
 have mixed:∀i j oi oj b,T i→¬T j→h' i=some oi→h' j=some oj→ET (g' i) oi b→ET (g' j) oj b→i=j:=by
  intro i j oi oj b ti tj hi hj bi bj
  rw[(hsame j tj).1]at hj
  rw[(hsame j tj).2]at bj
  rcases hblk i oi b ti hi bi with⟨j0,o0,t0,h0,b0⟩ | hge
  ·exact absurd (R.sep j0 j o0 oj b h0 hj b0 bj▸t0) tj
  ·exact absurd (lt j oj b hj bj) (by omega)
 refine⟨fun i o ho=>?_,fun i j oi oj b hi hj bi bj=>?_,fun i oi b o hi bi hx=>?_⟩
 ·by_cases ti:T i
  ·exact hobj i o ti ho
  ·rw[(hsame i ti).1]at ho
   rw[(hsame i ti).2]
   exact (R.objs i o ho).Yx E (fun b hb=>hworld i o b ti ho hb)
 ·by_cases ti:T i
  ·by_cases tj:T j
   ·exact hsep i j oi oj b ti tj hi hj bi bj
   ·exact mixed i j oi oj b ti tj hi hj bi bj
  ·by_cases tj:T j
   ·exact (mixed j i oj oi b tj ti hj hi bj bi).symm
   ·rw[(hsame i ti).1]at hi
    rw[(hsame i ti).2]at bi
    rw[(hsame j tj).1]at hj
    rw[(hsame j tj).2]at bj
    exact R.sep i j oi oj b hi hj bi bj
 ·by_cases ti:T i
  ·rcases hblk i oi b ti hi bi with⟨j0,o0,t0,h0,b0⟩ | hge
   ·exact R.apart j0 o0 b o h0 b0 hx
   ·exact absurd (hX b o hx) (by omega)
  ·rw[(hsame i ti).1]at hi
   rw[(hsame i ti).2]at bi
   exact R.apart i oi b o hi bi hx
end
def DY (s:Af) (d:Option Tmp) (v:AV):Af:=
 match d with
 | some d=>fun t=>if t=d then v else s t
 | none=>s
def Au (g:Ac) (i:Id) (v:Value):Ac:=fun j=>if j=i then v else g j
def AX (h:Heap) (i:Id) (o:AQ):Heap:=fun j=>if j=i then some o else h j
theorem Ap.step {C:Cx}{F F':Nat→Prop}{s:Af}{h h':Heap}{g g':Ac}{a:Act}{w w':World}(R:Ap C F s h g a w) (T:Id→Prop)
    (E:IM w (BN (zone g h) C.X) g h w' (BN (zone g' h') C.X) g' h')
    (hF:Bl (zone g h) w w')
    (hsame:∀i,¬T i→h' i=h i∧g' i=g i)
    (hworld:∀i o b,¬T i→h i=some o→ET (g i) o b→w'.heap[b]?=w.heap[b]?)
    (hobj:∀i o,T i→h' i=some o→Bd w' (BN (zone g' h') C.X) g' h' o (g' i))
    (hzon:∀i ob b o,T i→h' i=some ob→Bg (g' i) ob b o→(∃j o0,T j∧h j=some o0∧Bg (g j) o0 b o)∨w.heap.size≤b)
    (hsep:∀i j oi oj b,T i→T j→h' i=some oi→h' j=some oj→ET (g' i) oi b→ET (g' j) oj b→i=j)
    (hext:∀j,T (.ext j)→Ce (g (.ext j)) (g' (.ext j)))
    (hfree:∀n,F' n→g' (.loc n)=undef∧h' (.loc n)=none):
    Ap C F' s h' g' a w':=by
  have hX:∀b o,C.X b o→b<w.heap.size:=fun b o hx=>Nat.lt_of_lt_of_le (R.xs b o hx) R.frame.size
  have hnz:∀b o,b<C.w0.heap.size→¬C.Z0 b o→¬zone g h b o:=by
    rintro b o hb hz ⟨i,ob,hi,h1⟩
    rcases R.within i ob b o hi h1 with h2 | h2
    · exact hz h2
    · omega
  have hfr:Bl C.Z0 C.w0 w':=
    ⟨hF.os.trans R.frame.os,hF.tape.trans R.frame.tape,hF.output.trans R.frame.output,Nat.le_trans R.frame.size hF.size,
     fun b hb hz=>(hF.block b (Nat.lt_of_lt_of_le hb R.frame.size) (fun o=>hnz b o hb (hz o))).trans (R.frame.block b hb hz),
     fun b o u hu hz=>hF.cell b o u (R.frame.cell b o u hu hz) (hnz b o (World.block_lt_of_cell? C.w0 ⟨b,o,none⟩ hu) hz)⟩
  have hblk:∀i o b,T i→h' i=some o→ET (g' i) o b→(∃j o0,T j∧h j=some o0∧ET (g j) o0 b)∨w.heap.size≤b:=by
    intro i o b ti hi hb
    obtain⟨p,hp⟩:=hb.zone
    rcases hzon i o b p ti hi hp with⟨j,o0,tj,hj,h1⟩ | h1
    · exact .inl ⟨j,o0,tj,hj,h1.G4⟩
    · exact .inr h1
  refine⟨R.size,R.defers,fun t=>E.Pw (R.slots t),R.heap.dU T hX E hsame hworld hobj hblk hsep,hfr,fun j=>?_,fun i ob b o hi hz=>?_,R.xs,hfree⟩
  · by_cases tj:T (.ext j)
    · exact (R.ext j).trans (hext j tj)
    · rw[(hsame _ tj).2]
      exact R.ext j
  · by_cases ti:T i
    · rcases hzon i ob b o ti hi hz with⟨j,o0,tj,hj,h1⟩ | h1
      · exact R.within j o0 b o hj h1
      · exact .inr (Nat.le_trans R.frame.size h1)
    · rw[(hsame _ ti).1]at hi
      rw[(hsame _ ti).2]at hz
      exact R.within i ob b o hi hz
end Go.AM
namespace Go.AM
open Go Go.RowKit
structure TI where
 desc:TypeDesc
 size:Nat
 bytes:Nat
 zero:Value
 zc:List CV
def P4:CV→Value→Prop
 | .d (.int k n),.int k' m=>k=k'∧n=m
 | .d (.bool b),.bool b'=>b=b'
 | .d (.str s),.string s'=>s=s'
 | .nils _ _,.slice none 0 0=>True
 | .nilp,.pointer none=>True
 | .nilf,.nilFunc=>True
 | .nilm,.map none=>True
 | .un,v=>v.oneCell'=true
 | _,_=>False
abbrev Types:=TypeId→Option TI
def BV (P:Program) (ti:Types):Prop:=∀t x,ti t=some x→P.underlying t=some x.desc∧
 ∃i,P.info? t=some i∧i.size=x.size∧i.bytes=x.bytes∧i.zero=some x.zero∧x.zero.cells.size=x.size∧x.zc.length=x.size∧
  ∀(j:Nat) c u,x.zc[j]?=some c→x.zero.cells[j]?=some u→P4 c u
def Ax:TypeDesc→Bool
 | .struct _ | .array _ _=>true
 | _=>false
def V1.Yy:CV→V1
 | .d x=>.d x
 | y=>.c y
def V1.cells:V1→List CV
 | .d x=>x.cells.map CV.d
 | .c x=>[x]
 | .agg cs=>cs
def P5:List CV→Option (List D)
 | []=>some []
 | .d x::r=>match P5 r with
  | some ds=>some (x::ds)
  | none=>none
 | _::_=>none
def KR:List CV→Option (List D)
 | []=>some []
 | .d x::r=>match KR r with
  | some ds=>some (x::ds)
  | none=>none
 | .nils ag sz::r=>match KR r with
  | some ds=>some (.list ag sz []::ds)
  | none=>none
 | .tl ag sz rows::r=>match KR r with
  | some ds=>some (.list ag sz rows::ds)
  | none=>none
 | .lst _ ag sz rows::r=>match KR r with
  | some ds=>some (.list ag sz rows::ds)
  | none=>none
 | _::_=>none
def V1.BL (ag:Bool) (cs:List CV):V1:=
 match ag with
 | true=>match P5 cs with
  | some ds=>.d (.agg ds)
  | none=>.agg cs
 | false=>match cs with
  | [y]=>V1.Yy y
  | _=>.c .un
def V1.norm:V1→V1
 | .c (.nils ag sz)=>.d (.list ag sz [])
 | .c (.tl ag sz rows)=>.d (.list ag sz rows)
 | .c (.lst _ ag sz rows)=>.d (.list ag sz rows)
 | .agg cs=>match KR cs with
  | some ds=>.d (.agg ds)
  | none=>.agg cs
 | x=>x
section
variable {w:World}{Z:Av}{g:Ac}{h:Heap}
theorem BE.Yy {c:CV}{v:Value}(r:BM w Z g h c v):BE w Z g h (V1.Yy c) v:=by
 cases c<;>first | exact r | exact r.1
theorem E0 (ag:Bool) (sz:Nat):Aj w Z (.list ag sz []) (.slice none 0 0):=
 .list ag sz [] none 0 0 0 (fun _ _=>undef) (Nat.le_refl _) (Nat.zero_le _) (by simp) (by simp) (by simp) (by simp)
theorem BM.Bw {c:CV}{v:Value}(r:BM w Z g h c v):v.oneCell'=true:=by
 cases c with
 | un=>exact r
 | d x=>exact r.1.Bw r.2
 | ptr i o=>
  obtain⟨⟨b,hb⟩,rfl⟩:=r
  rw[hb];rfl
 | row ag sz x=>obtain⟨_,b,o,rfl,_⟩:=r;rfl
 | rp cs=>obtain⟨_,b,o,rfl,_⟩:=r;rfl
 | nilp=>rw[show v=_ from r];rfl
 | fn f cap=>rw[r.1];rfl
 | nilf=>rw[show v=_ from r];rfl
 | nils ag sz=>rw[show v=_ from r];rfl
 | tl ag sz rows=>exact r.1.Bw rfl
 | lst i ag sz rows=>exact r.1.Bw rfl
 | sl i n=>
  obtain⟨⟨b,hb⟩,rfl⟩:=r
  rw[hb];rfl
 | map i=>
  obtain⟨rfl,m,hm⟩:=r
  rw[hm];rfl
 | nilm=>rw[show v=_ from r];rfl
 | ap i base sz k o=>
  obtain⟨⟨b,hb⟩,rfl⟩:=r
  rw[hb];rfl
 | ow i=>exact r.1
 | op i sz k o=>exact r.1
 | yl i=>obtain⟨l,_,rfl⟩:=r;rfl
 | bm f i=>rw[r.2];rfl
theorem BE.cells {x:V1}{v:Value}(r:BE w Z g h x v):
  v.cells.size=x.cells.length∧∀(j:Nat) c u,x.cells[j]?=some c→v.cells[j]?=some u→BM w Z g h c u:=by
 cases x with
 | d x=>
  obtain⟨h1,h2⟩:=Aj.cellsOf r
  refine⟨by simpa [V1.cells] using h1,fun j c u hc hu=>?_⟩
  simp only[V1.cells,List.getElem?_map,Option.map_eq_some_iff]at hc
  obtain⟨d,hd,rfl⟩:=hc
  exact h2 j d u hd hu
 | c x=>
  have hv:v.cells=#[v]:=Dl (BM.Bw r)
  rw[hv]
  refine⟨rfl,fun j c u hc hu=>?_⟩
  match j with
  | 0=>simp[V1.cells]at hc hu;subst hc;subst hu;exact r
  | j+1=>simp[V1.cells]at hc
 | agg cs=>
  obtain⟨vs,rfl,hs,hr⟩:=r
  exact⟨hs,hr⟩
theorem Sj {cs:List CV}{ds:List D}(he:P5 cs=some ds):cs=ds.map CV.d:=by
 induction cs generalizing ds with
 | nil=>simp[P5]at he;subst he;rfl
 | cons c r ih=>
  cases c<;>simp only[P5]at he<;>try (exact absurd he (by simp))
  split at he
  ·rename_i ds' hd
   simp at he
   subst he
   rw[ih hd];rfl
  ·simp at he
theorem BE.BL {ag:Bool}{cs:List CV}{vs:Array Value}(hs:vs.size=cs.length)
  (hr:∀(j:Nat) c u,cs[j]?=some c→vs[j]?=some u→BM w Z g h c u):
  (ag=true→BE w Z g h (V1.BL ag cs) (.agg vs))∧(ag=false→∀v,vs=#[v]→BE w Z g h (V1.BL ag cs) v):=by
 constructor
 ·rintro rfl
  unfold V1.BL
  simp only[]
  split
  ·rename_i ds hd
   have e:=Sj hd
   subst e
   refine .agg ds vs (by simpa using hs) (fun c hc=>?_) (fun j c v hc hv=>?_)
   ·obtain⟨j,hj⟩:=List.mem_iff_getElem?.1 hc
    have hlt:j<vs.size:=by
     have:=(List.getElem?_eq_some_iff.1 hj).1
     simp at hs;omega
    exact (hr j (.d c) vs[j] (by simp[hj]) (by simp[hlt])).2
   ·exact (hr j (.d c) v (by simp[hc]) hv).1
  ·exact⟨vs,rfl,hs,hr⟩
 ·rintro rfl v rfl
  have h1:cs.length=1:=by simpa using hs.symm
  match cs,h1 with
  | [c],_=>exact BE.Yy (hr 0 c v rfl rfl)
theorem Oh {cs:List CV}{ds:List D}(he:KR cs=some ds):
  ds.length=cs.length∧∀(j:Nat) x c v,ds[j]?=some x→cs[j]?=some c→BM w Z g h c v→Aj w Z x v∧x.isAgg=false:=by
 induction cs generalizing ds with
 | nil=>simp[KR]at he;subst he;exact⟨rfl,by simp⟩
 | cons c r ih=>
  have main:∀y,(∀v,BM w Z g h c v→Aj w Z y v∧y.isAgg=false)→
    (match KR r with | some ds=>some (y::ds) | none=>none)=some ds→
    ds.length=(c::r).length∧∀(j:Nat) x c' v,ds[j]?=some x→(c::r)[j]?=some c'→BM w Z g h c' v→Aj w Z x v∧x.isAgg=false:=by
   intro y hy he
   split at he
   ·rename_i ds' hd
    simp at he
    subst he
    obtain⟨h1,h2⟩:=ih hd
    refine⟨by simp[h1],fun j x c' v hx hc hr=>?_⟩
    match j with
    | 0=>simp at hx hc;subst hx;subst hc;exact hy v hr
    | j+1=>simp at hx hc;exact h2 j x c' v hx hc hr
   ·simp at he
  cases c<;>simp only[KR]at he<;>try (exact absurd he (by simp))
  ·exact main _ (fun v hr=>hr) he
  ·exact main _ (fun v hr=>by rw[show v=_ from hr];exact⟨E0 _ _,rfl⟩) he
  ·exact main _ (fun v hr=>⟨hr.1,rfl⟩) he
  ·exact main _ (fun v hr=>⟨hr.1,rfl⟩) he
theorem BE.norm {x:V1}{v:Value}(r:BE w Z g h x v):BE w Z g h x.norm v:=by
 cases x with
 | d x=>exact r
 | c x=>
  cases x<;>first
   | exact r
   | (rw[show v=_ from r];exact E0 _ _)
   | exact r.1
 | agg cs=>
  obtain⟨vs,rfl,hs,hr⟩:=r
  show BE w Z g h (match KR cs with | some ds=>.d (.agg ds) | none=>.agg cs) (.agg vs)
  cases hd:KR cs with
  | some ds=>
    obtain⟨h1,h2⟩:=Oh (w:=w) (Z:=Z) (g:=g) (h:=h) hd
    have get:∀j,j<cs.length→∃c u,cs[j]?=some c∧vs[j]?=some u:=fun j hj=>⟨cs[j],vs[j],by simp[hj],by simp[hs,hj]⟩
    refine .agg ds vs (by omega) (fun c hc=>?_) (fun j c v hc hv=>?_)
    ·obtain⟨j,hj⟩:=List.mem_iff_getElem?.1 hc
     obtain⟨c',u,h3,h4⟩:=get j (by have:=(List.getElem?_eq_some_iff.1 hj).1;omega)
     exact (h2 j c c' u hj h3 (hr j c' u h3 h4)).2
    ·obtain⟨c',u,h3,h4⟩:=get j (by have:=(List.getElem?_eq_some_iff.1 hc).1;omega)
     rw[hv]at h4
     simp at h4
     subst h4
     exact (h2 j c c' v hc h3 (hr j c' v h3 hv)).1
  | none=>exact⟨vs,rfl,hs,hr⟩
end
def BD (pre:List AQ):Heap
 | .ext j=>pre[j]?
 | .loc _=>none
def Bf (post new:List AQ):Heap
 | .ext j=>post[j]?
 | .loc k=>new[k]?
def sameKind:AQ→AQ→Prop
 | .cells _,.cells _=>True
 | .tok n sz e,.tok n' sz' e'=>n=n'∧sz=sz'∧e=e'
 | .map ..,.map ..=>True
 | .arr ..,.arr ..=>True
 | .tree ..,.tree ..=>True
 | .pmap ..,.pmap ..=>True
 | .rnd ..,.rnd ..=>True
 | .rnd ..,.rndX _=>True
 | .rndX _,.rndX _=>True
 | _,.gone=>True
 | _,_=>False
def CF:List AQ→List AQ→Prop
 | [],[]=>True
 | a::al,b::bs=>sameKind a b∧CF al bs
 | _,_=>False
structure E1 (w:World) (X:Av) (g:Ac) (pre:List AQ) (res:AV) (post new:List AQ) (v:Value) (w':World) (g':Ac):Prop where
 heap:Db w' X g' (Bf post new)
 res:BG w' (BN (zone g' (Bf post new)) X) g' (Bf post new) res v
 frame:Bl (zone g (BD pre)) w w'
 ext:∀j,Ce (g (.ext j)) (g' (.ext j))
 within:∀i ob b o,Bf post new i=some ob→Bg (g' i) ob b o→zone g (BD pre) b o∨w.heap.size≤b
 none:∀k,new.length≤k→g' (.loc k)=undef
def EU (P:Program) (I:Inv) (f:FuncId) (args:List V1) (pre:List AQ) (Q:AV→List AQ→List AQ→Prop):Prop:=
 (∃fn c,P.funcs[f]?=some fn∧fn.body=some c∧(fn.name== "runtime.NumGoroutine")=false)∧
 ∀w X g (vals:Array Value),(∀b o,X b o→b<w.heap.size)→I.at w (BN (zone g (BD pre)) X)→Db w X g (BD pre)→(∀n,g (.loc n)=undef)→vals.size=args.length→
  (∀(j:Nat) x v,args[j]?=some x→vals[j]?=some v→BE w (BN (zone g (BD pre)) X) g (BD pre) x v)→
  Calls P f vals w fun e w'=>∃v g' res post new,Q res post new∧e= .returned v∧E1 w X g pre res post new v w' g'
def AW (P:Program) (I:Inv) (f:FuncId) (args:List V1) (pre:List AQ) (res:AV) (post new:List AQ):Prop:=EU P I f args pre fun r p n=>r=res∧p=post∧n=new
theorem AW.calls {P:Program}{I:Inv}{f:FuncId}{args:List V1}{pre:List AQ}{res:AV}{post new:List AQ}(h:AW P I f args pre res post new) {w:World}{X:Av}{g:Ac}{vals:Array Value}
  (h1:∀b o,X b o→b<w.heap.size) (h2:I.at w (BN (zone g (BD pre)) X)) (h3:Db w X g (BD pre)) (h4:∀n,g (.loc n)=undef) (h5:vals.size=args.length)
  (h6:∀(j:Nat) x v,args[j]?=some x→vals[j]?=some v→BE w (BN (zone g (BD pre)) X) g (BD pre) x v):
  Calls P f vals w fun e w'=>∃v g',e= .returned v∧E1 w X g pre res post new v w' g':=
 (h.2 w X g vals h1 h2 h3 h4 h5 h6).mono (by rintro e w' ⟨v,g',_,_,_,⟨rfl,rfl,rfl⟩,he,hp⟩;exact⟨v,g',he,hp⟩)
theorem AW.mk' {P:Program}{I:Inv}{f:FuncId}{args:List V1}{pre:List AQ}{res:AV}{post new:List AQ}(h1:∃fn c,P.funcs[f]?=some fn∧fn.body=some c∧(fn.name== "runtime.NumGoroutine")=false)
  (h:∀w X g (vals:Array Value),(∀b o,X b o→b<w.heap.size)→I.at w (BN (zone g (BD pre)) X)→Db w X g (BD pre)→(∀n,g (.loc n)=undef)→vals.size=args.length→
   (∀(j:Nat) x v,args[j]?=some x→vals[j]?=some v→BE w (BN (zone g (BD pre)) X) g (BD pre) x v)→
   Calls P f vals w fun e w'=>∃v g',e= .returned v∧E1 w X g pre res post new v w' g'):AW P I f args pre res post new:=
 ⟨h1,fun w X g vals k1 k2 k3 k4 k5 k6=>(h w X g vals k1 k2 k3 k4 k5 k6).mono (by rintro e w' ⟨v,g',he,hp⟩;exact⟨v,g',_,_,_,⟨rfl,rfl,rfl⟩,he,hp⟩)⟩
section
variable {w:World}{Z Z':Av}{g g':Ac}{h h':Heap}{r:Id→Id}
theorem BM.pull (hz:∀b o,Z' b o→Z b o) (hg:∀i,g' i=g (r i)) (ht:∀i n sz e,h' i=some (.tok n sz e)→h (r i)=some (.tok n sz e)) (hw:∀i,isLive (h' i)=true→isLive (h (r i))=true)
  {c:CV} {v:Value} (q:BM w Z g h (c.BW r) v):BM w Z' g' h' c v:=by
 have hd:∀{x:D} {u:Value},Aj w Z x u→Aj w Z' x u:=fun q=>q.mono (fun b o u hu hn=>⟨hu,fun hz'=>hn (hz _ _ hz')⟩)
 cases c with
 | un=>exact q
 | d x=>exact⟨hd q.1,q.2⟩
 | ptr i o=>simp only[CV.BW,BM,←hg]at q ⊢;exact q
 | row ag sz x=>
  obtain⟨hf,b,o,hv,U,hU⟩:=q
  exact⟨hf,b,o,hv,U,fun j c hc=>⟨(hU j c hc).1,fun hz'=>(hU j c hc).2.1 (hz _ _ hz'),hd (hU j c hc).2.2⟩⟩
 | rp cs=>
  obtain⟨hf,b,o,hv,U,hU⟩:=q
  exact⟨hf,b,o,hv,U,fun j c hc=>⟨(hU j c hc).1,fun hz'=>(hU j c hc).2.1 (hz _ _ hz'),hd (hU j c hc).2.2⟩⟩
 | nilp=>exact q
 | fn f cap=>
  simp only[CV.BW,BM,List.map_map,List.forall_mem_map]at q ⊢
  refine⟨?_,fun i hi=>by rw[hg];exact q.2 i hi⟩
  rw[q.1]
  congr 2
  exact List.map_congr_left fun i _=>by simp[hg]
 | nilf=>exact q
 | nils ag sz=>exact q
 | tl ag sz rows=>exact⟨hd q.1,q.2⟩
 | lst i ag sz rows=>
  obtain⟨q1,q2,q3⟩:=q
  exact⟨hd q1,by rw[hg];exact q2,fun n sz' e hn=>by rw[hg];exact q3 n sz' e (ht i n sz' e hn)⟩
 | sl i n=>simp only[CV.BW,BM,←hg]at q ⊢;exact q
 | map i=>simp only[CV.BW,BM,←hg]at q ⊢;exact q
 | nilm=>exact q
 | ap i base sz k o=>simp only[CV.BW,BM,←hg]at q ⊢;exact q
 | ow i=>
  obtain⟨q1,q2,q3⟩:=q
  exact⟨q1,by rw[hg];exact q2,fun hm=>by rw[hg];exact q3 (hw i hm)⟩
 | op i sz k o=>
  obtain⟨q1,q2,q3⟩:=q
  exact⟨q1,by rw[hg];exact q2,fun hm=>by rw[hg];exact q3 (hw i hm)⟩
 | yl i=>simp only[CV.BW,BM,←hg]at q ⊢;exact q
 | bm f i=>simp only[CV.BW,BM,←hg]at q ⊢;exact q
theorem BM.push (hz:∀b o u,w.cell? ⟨b,o,none⟩=some u→¬Z' b o→¬Z b o) (hg:∀i,g' i=g (r i)) (ht:∀i n sz e,h (r i)=some (.tok n sz e)→h' i=some (.tok n sz e)) (hw:∀i,isLive (h (r i))=true→isLive (h' i)=true)
  {c:CV} {v:Value} (q:BM w Z' g' h' c v):BM w Z g h (c.BW r) v:=by
 have hd:∀{x:D} {u:Value},Aj w Z' x u→Aj w Z x u:=fun q=>q.mono (fun b o u hu hn=>⟨hu,hz b o u hu hn⟩)
 cases c with
 | un=>exact q
 | d x=>exact⟨hd q.1,q.2⟩
 | ptr i o=>simp only[CV.BW,BM,hg]at q ⊢;exact q
 | row ag sz x=>
  obtain⟨hf,b,o,hv,U,hU⟩:=q
  exact⟨hf,b,o,hv,U,fun j c hc=>⟨(hU j c hc).1,hz _ _ _ (hU j c hc).1 (hU j c hc).2.1,hd (hU j c hc).2.2⟩⟩
 | rp cs=>
  obtain⟨hf,b,o,hv,U,hU⟩:=q
  exact⟨hf,b,o,hv,U,fun j c hc=>⟨(hU j c hc).1,hz _ _ _ (hU j c hc).1 (hU j c hc).2.1,hd (hU j c hc).2.2⟩⟩
 | nilp=>exact q
 | fn f cap=>
  simp only[CV.BW,BM,List.map_map,List.forall_mem_map]at q ⊢
  refine⟨?_,fun i hi=>by rw[←hg];exact q.2 i hi⟩
  rw[q.1]
  congr 2
  exact List.map_congr_left fun i _=>by simp[hg]
 | nilf=>exact q
 | nils ag sz=>exact q
 | tl ag sz rows=>exact⟨hd q.1,q.2⟩
 | lst i ag sz rows=>
  obtain⟨q1,q2,q3⟩:=q
  exact⟨hd q1,by rw[←hg];exact q2,fun n sz' e hn=>by rw[←hg];exact q3 n sz' e (ht i n sz' e hn)⟩
 | sl i n=>simp only[CV.BW,BM,hg]at q ⊢;exact q
 | map i=>simp only[CV.BW,BM,hg]at q ⊢;exact q
 | nilm=>exact q
 | ap i base sz k o=>simp only[CV.BW,BM,hg]at q ⊢;exact q
 | ow i=>
  obtain⟨q1,q2,q3⟩:=q
  exact⟨q1,by rw[←hg];exact q2,fun hm=>by rw[←hg];exact q3 (hw i hm)⟩
 | op i sz k o=>
  obtain⟨q1,q2,q3⟩:=q
  exact⟨q1,by rw[←hg];exact q2,fun hm=>by rw[←hg];exact q3 (hw i hm)⟩
 | yl i=>simp only[CV.BW,BM,hg]at q ⊢;exact q
 | bm f i=>simp only[CV.BW,BM,hg]at q ⊢;exact q
theorem BE.pull (hz:∀b o,Z' b o→Z b o) (hg:∀i,g' i=g (r i)) (ht:∀i n sz e,h' i=some (.tok n sz e)→h (r i)=some (.tok n sz e)) (hw:∀i,isLive (h' i)=true→isLive (h (r i))=true)
  {c:V1} {v:Value} (q:BE w Z g h (c.BW r) v):BE w Z' g' h' c v:=by
 cases c with
 | d x=>exact Aj.mono (fun b o u hu hn=>⟨hu,fun hz'=>hn (hz _ _ hz')⟩) q
 | c x=>exact BM.pull (r:=r) hz hg ht hw q
 | agg cs=>
  obtain⟨vs,hv,hs,hr⟩:=q
  refine⟨vs,hv,by simpa using hs,fun j c u hc hu=>BM.pull (r:=r) hz hg ht hw (hr j (c.BW r) u (by simp[hc]) hu)⟩
theorem BE.push (hz:∀b o u,w.cell? ⟨b,o,none⟩=some u→¬Z' b o→¬Z b o) (hg:∀i,g' i=g (r i)) (ht:∀i n sz e,h (r i)=some (.tok n sz e)→h' i=some (.tok n sz e)) (hw:∀i,isLive (h (r i))=true→isLive (h' i)=true)
  {c:V1} {v:Value} (q:BE w Z' g' h' c v):BE w Z g h (c.BW r) v:=by
 cases c with
 | d x=>exact Aj.mono (fun b o u hu hn=>⟨hu,hz b o u hu hn⟩) q
 | c x=>exact BM.push (r:=r) hz hg ht hw q
 | agg cs=>
  obtain⟨vs,hv,hs,hr⟩:=q
  refine⟨vs,hv,by simpa using hs,fun j c u hc hu=>?_⟩
  simp only[List.getElem?_map,Option.map_eq_some_iff]at hc
  obtain⟨c',hc',rfl⟩:=hc
  exact BM.push (r:=r) hz hg ht hw (hr j c' u hc' hu)
theorem BG.push (hz:∀b o u,w.cell? ⟨b,o,none⟩=some u→¬Z' b o→¬Z b o) (hg:∀i,g' i=g (r i)) (ht:∀i n sz e,h (r i)=some (.tok n sz e)→h' i=some (.tok n sz e)) (hw:∀i,isLive (h (r i))=true→isLive (h' i)=true)
  {c:AV} {v:Value} (q:BG w Z' g' h' c v):BG w Z g h (c.BW r) v:=by
 cases c with
 | u=>trivial
 | v x=>exact BE.push (r:=r) hz hg ht hw q
 | t xs=>
  obtain⟨vs,hv,hs,hr⟩:=q
  refine⟨vs,hv,by simpa using hs,fun j c u hc hu=>?_⟩
  simp only[List.getElem?_map,Option.map_eq_some_iff]at hc
  obtain⟨c',hc',rfl⟩:=hc
  exact BE.push (r:=r) hz hg ht hw (hr j c' u hc' hu)
theorem BG.pull (hz:∀b o,Z' b o→Z b o) (hg:∀i,g' i=g (r i)) (ht:∀i n sz e,h' i=some (.tok n sz e)→h (r i)=some (.tok n sz e)) (hw:∀i,isLive (h' i)=true→isLive (h (r i))=true)
  {c:AV} {v:Value} (q:BG w Z g h (c.BW r) v):BG w Z' g' h' c v:=by
 cases c with
 | u=>trivial
 | v x=>exact BE.pull (r:=r) hz hg ht hw q
 | t xs=>
  obtain⟨vs,hv,hs,hr⟩:=q
  refine⟨vs,hv,by simpa using hs,fun j c u hc hu=>BE.pull (r:=r) hz hg ht hw (hr j (c.BW r) u (by simp[hc]) hu)⟩
theorem Bd.pull (hz:∀b o,Z' b o→Z b o) (hg:∀i,g' i=g (r i)) (ht:∀i n sz e,h' i=some (.tok n sz e)→h (r i)=some (.tok n sz e)) (hw:∀i,isLive (h' i)=true→isLive (h (r i))=true)
  {ob:AQ} {v:Value} (q:Bd w Z g h (ob.BW r) v):Bd w Z' g' h' ob v:=by
 cases ob with
 | cells cs=>
  obtain⟨b,c,e,hv,hh,hs,hr⟩:=q
  exact⟨b,c,e,hv,hh,by simpa using hs,fun j x u hx hu=>BM.pull (r:=r) hz hg ht hw (hr j (x.BW r) u (by simp[hx]) hu)⟩
 | tok n sz e=>exact q
 | map kt et es=>exact q
 | arr cs1 ag sz rows cs2=>
  obtain⟨hf,b,c,e,hv,hh,hs,h1,h2,h3⟩:=q
  refine⟨hf,b,c,e,hv,hh,by simpa using hs,fun j x u hx hu=>BM.pull (r:=r) hz hg ht hw (h1 j (x.BW r) u (by simp[hx]) hu),fun i y j x hy hx=>?_,
   fun j x u hx hu=>BM.pull (r:=r) hz hg ht hw (h3 j (x.BW r) u (by simp[hx]) (by simpa using hu))⟩
  obtain⟨u,hu,hd⟩:=h2 i y j x hy hx
  exact⟨u,by simpa using hu,Aj.mono (fun b o u hu hn=>⟨hu,fun hz'=>hn (hz _ _ hz')⟩) hd⟩
 | tree kd ag sz rows foc=>
  obtain⟨ht',h0,hf,xs,hx,hc,U,T,h1,h2,h3,h4,h5⟩:=q
  have sk:∀{i:Nat},(∀k cs,foc=some (k,cs)→i≠k)→∀k cs,(match foc with | some x=>some (x.1,x.2.map (CV.BW r)) | none=>none)=some (k,cs)→i≠k:=by
   intro i hi k cs hk
   cases foc with
   | none=>cases hk
   | some x=>cases hk;exact hi x.1 x.2 rfl
  have sk':∀{i:Nat},(∀k cs,(match foc with | some x=>some (x.1,x.2.map (CV.BW r)) | none=>none)=some (k,cs)→i≠k)→∀k cs,foc=some (k,cs)→i≠k:=by
   rintro i hi k cs rfl
   exact hi k _ rfl
  refine⟨ht',h0,hf,xs,hx,fun k cs hk=>?_,U,T,fun i y j c hi hr hj=>⟨(h1 i y j c (sk hi) hr hj).1,(h1 i y j c (sk hi) hr hj).2.map (Aj.mono (fun b o u hu hn=>⟨hu,fun hz'=>hn (hz _ _ hz')⟩)) id⟩,fun i j b hb=>⟨sk' (h2 i j b hb).1,(h2 i j b hb).2⟩,h3,h4,h5⟩
  subst hk
  obtain⟨p1,p2,p3⟩:=hc k _ rfl
  exact⟨p1,by simpa using p2,fun j c u hj hu=>BM.pull (r:=r) hz hg ht hw (p3 j (c.BW r) u (by simp[hj]) hu)⟩
 | pmap n1 sz n rows foc=>
  obtain⟨ht',q',m,cl,B,hv,hh,hs,hbn,h1,h2,h3,h4,h5,h6⟩:=q
  have sk:∀{k:Nat},(∀j,foc≠some (k,j))→∀j,(match foc with | some x=>some (x.1,r x.2) | none=>none)≠some (k,j):=by
   intro k hk j hj
   cases foc with
   | none=>cases hj
   | some x=>cases hj;exact hk x.2 rfl
  have sk':∀{k:Nat},(∀j,(match foc with | some x=>some (x.1,r x.2) | none=>none)≠some (k,j))→∀j,foc≠some (k,j):=by
   rintro k hk j rfl
   exact hk _ rfl
  refine⟨ht',q',m,cl,B,hv,hh,hs,hbn,h1,fun k j hk=>?_,fun k x hx hk=>?_,h4,h5,fun b=>⟨fun hb=>?_,fun hb=>?_⟩⟩
  ·subst hk
   rw[hg]
   exact h2 k _ rfl
  ·exact (h3 k x hx (sk hk)).mono rfl (Aj.mono (fun b o u hu hn=>⟨hu,fun hz'=>hn (hz _ _ hz')⟩))
  ·rcases (h6 b).1 hb with h | ⟨k,a1,a2,a3⟩
   ·exact .inl h
   ·exact .inr ⟨k,a1,sk' a2,a3⟩
  ·rcases hb with h | ⟨k,a1,a2,a3⟩
   ·exact (h6 b).2 (.inl h)
   ·exact (h6 b).2 (.inr ⟨k,a1,sk a2,a3⟩)
 | part c ag sz rows=>exact⟨q.1,q.2.mono (fun b o u hu hn=>⟨hu,fun hz'=>hn (hz _ _ hz')⟩) fun _ _=>rfl⟩
 | gone=>trivial
 | rnd rf sl=>
  obtain⟨l,L,hv,hh,h1,h2,h3,h4,h5,h6,h7⟩:=q
  exact⟨l,L,hv,hh,h1,h2,h3,h4,h5,h6,fun t=>BG.pull (r:=r) hz hg ht hw (by rw[←Kx];exact h7 t)⟩
 | rndX j=>exact q
theorem Bd.push (hz:∀b o u,w.cell? ⟨b,o,none⟩=some u→¬Z' b o→¬Z b o) (hg:∀i,g' i=g (r i)) (ht:∀i n sz e,h (r i)=some (.tok n sz e)→h' i=some (.tok n sz e)) (hw:∀i,isLive (h (r i))=true→isLive (h' i)=true)
  {ob:AQ} {v:Value} (q:Bd w Z' g' h' ob v):Bd w Z g h (ob.BW r) v:=by
 cases ob with
 | cells cs=>
  obtain⟨b,c,e,hv,hh,hs,hr⟩:=q
  refine⟨b,c,e,hv,hh,by simpa using hs,fun j x u hx hu=>?_⟩
  simp only[List.getElem?_map,Option.map_eq_some_iff]at hx
  obtain⟨x',hx',rfl⟩:=hx
  exact BM.push (r:=r) hz hg ht hw (hr j x' u hx' hu)
 | tok n sz e=>exact q
 | map kt et es=>exact q
 | arr cs1 ag sz rows cs2=>
  obtain⟨hf,b,c,e,hv,hh,hs,h1,h2,h3⟩:=q
  refine⟨hf,b,c,e,hv,hh,by simpa using hs,fun j x u hx hu=>?_,fun i y j x hy hx=>?_,fun j x u hx hu=>?_⟩
  ·simp only[List.getElem?_map,Option.map_eq_some_iff]at hx
   obtain⟨x',hx',rfl⟩:=hx
   exact BM.push (r:=r) hz hg ht hw (h1 j x' u hx' hu)
  ·obtain⟨u,hu,hd⟩:=h2 i y j x hy hx
   exact⟨u,by simpa using hu,Aj.mono (fun b o u hu hn=>⟨hu,hz b o u hu hn⟩) hd⟩
  ·simp only[List.getElem?_map,Option.map_eq_some_iff]at hx
   obtain⟨x',hx',rfl⟩:=hx
   exact BM.push (r:=r) hz hg ht hw (h3 j x' u hx' (by simpa using hu))
 | tree kd ag sz rows foc=>
  obtain⟨ht',h0,hf,xs,hx,hc,U,T,h1,h2,h3,h4,h5⟩:=q
  have sk:∀{i:Nat},(∀k cs,foc=some (k,cs)→i≠k)→∀k cs,(match foc with | some x=>some (x.1,x.2.map (CV.BW r)) | none=>none)=some (k,cs)→i≠k:=by
   intro i hi k cs hk
   cases foc with
   | none=>cases hk
   | some x=>cases hk;exact hi x.1 x.2 rfl
  have sk':∀{i:Nat},(∀k cs,(match foc with | some x=>some (x.1,x.2.map (CV.BW r)) | none=>none)=some (k,cs)→i≠k)→∀k cs,foc=some (k,cs)→i≠k:=by
   rintro i hi k cs rfl
   exact hi k _ rfl
  refine⟨ht',h0,hf,xs,hx,fun k cs hk=>?_,U,T,fun i y j c hi hr hj=>⟨(h1 i y j c (sk' hi) hr hj).1,(h1 i y j c (sk' hi) hr hj).2.map (Aj.mono (fun b o u hu hn=>⟨hu,hz b o u hu hn⟩)) id⟩,fun i j b hb=>⟨sk (h2 i j b hb).1,(h2 i j b hb).2⟩,h3,h4,h5⟩
  cases foc with
  | none=>cases hk
  | some x=>
   cases hk
   obtain⟨p1,p2,p3⟩:=hc x.1 x.2 rfl
   refine⟨p1,by simpa using p2,fun j c u hj hu=>?_⟩
   simp only[List.getElem?_map,Option.map_eq_some_iff]at hj
   obtain⟨c',hc',rfl⟩:=hj
   exact BM.push (r:=r) hz hg ht hw (p3 j c' u hc' hu)
 | pmap n1 sz n rows foc=>
  obtain⟨ht',q',m,cl,B,hv,hh,hs,hbn,h1,h2,h3,h4,h5,h6⟩:=q
  have sk:∀{k:Nat},(∀j,foc≠some (k,j))→∀j,(match foc with | some x=>some (x.1,r x.2) | none=>none)≠some (k,j):=by
   intro k hk j hj
   cases foc with
   | none=>cases hj
   | some x=>cases hj;exact hk x.2 rfl
  have sk':∀{k:Nat},(∀j,(match foc with | some x=>some (x.1,r x.2) | none=>none)≠some (k,j))→∀j,foc≠some (k,j):=by
   rintro k hk j rfl
   exact hk _ rfl
  refine⟨ht',q',m,cl,B,hv,hh,hs,hbn,h1,fun k j hk=>?_,fun k x hx hk=>?_,h4,h5,fun b=>⟨fun hb=>?_,fun hb=>?_⟩⟩
  ·cases foc with
   | none=>cases hk
   | some x=>
    cases hk
    rw[←hg]
    exact h2 _ _ rfl
  ·exact (h3 k x hx (sk' hk)).mono rfl (Aj.mono (fun b o u hu hn=>⟨hu,hz b o u hu hn⟩))
  ·rcases (h6 b).1 hb with h | ⟨k,a1,a2,a3⟩
   ·exact .inl h
   ·exact .inr ⟨k,a1,sk a2,a3⟩
  ·rcases hb with h | ⟨k,a1,a2,a3⟩
   ·exact (h6 b).2 (.inl h)
   ·exact (h6 b).2 (.inr ⟨k,a1,sk' a2,a3⟩)
 | part c ag sz rows=>exact⟨q.1,q.2.mono (fun b o u hu hn=>⟨hu,hz b o u hu hn⟩) fun _ _=>rfl⟩
 | gone=>trivial
 | rnd rf sl=>
  obtain⟨l,L,hv,hh,h1,h2,h3,h4,h5,h6,h7⟩:=q
  exact⟨l,L,hv,hh,h1,h2,h3,h4,h5,h6,fun t=>by rw[Kx];exact BG.push (r:=r) hz hg ht hw (h7 t)⟩
 | rndX j=>exact q
theorem CX {gv:Value}{ob:AQ}{b o:Nat}:Bg gv (ob.BW r) b o↔Bg gv ob b o:=by
 cases ob<;>rfl
theorem Cp {gv:Value}{ob:AQ}{b:Nat}:ET gv (ob.BW r) b↔ET gv ob b:=by
 cases ob<;>rfl
theorem C9 {ob:AQ}:isLive (some (ob.BW r))=isLive (some ob):=by
 cases ob<;>rfl
end
end Go.AM
namespace Go.AM
open Go Go.RowKit
structure Out where
 val:AV
 rd:List Id
 wr:List (Id×AQ)
def BP (h:Heap):List (Id×AQ)→Heap
 | []=>h
 | (i,o)::r=>BP (AX h i o) r
def Bq (c:Bool) (K:Prop):Prop:=
 match c with
 | true=>K
 | false=>False
theorem AR {c:Bool}{K:Prop}:Bq c K↔c=true∧K:=by cases c<;>simp[Bq]
def P6 (ti:Types) (t:TypeId):Value→CV
 | .int k n=>.d (.int k n)
 | .bool b=>.d (.bool b)
 | .string s=>.d (.str s)
 | .pointer none=>.nilp
 | .nilFunc=>.nilf
 | .map none=>.nilm
 | .slice none 0 0=>match ti t with
  | some x=>match x.desc with
   | .slice e=>match ti e with
    | some y=>.nils (Ax y.desc) y.size
    | none=>.nils false 1
   | _=>.nils false 1
  | none=>.nils false 1
 | _=>.un
def Sk (c:CV):AV:=
 match c with
 | .un=>.u
 | c=>.v (V1.Yy c)
def ZJ:CV→Value→Option CV
 | .nils ag sz,.slice none 0 0=>some (.nils ag sz)
 | .d (.int _ _),.int q n=>some (.d (.int q n))
 | .d (.bool _),.bool b=>some (.d (.bool b))
 | .d (.str _),.string s=>some (.d (.str s))
 | .nilp,.pointer none=>some .nilp
 | _,_=>none
def Y6:List CV→List Value→Option (List CV)
 | [],[]=>some []
 | c::cs,v::vs=>match ZJ c v with
  | some x=>(match Y6 cs vs with
   | some xs=>some (x::xs)
   | none=>none)
  | none=>none
 | _,_=>none
def P7 (ti:Types) (t:TypeId) (v:Value):AV:=
 match v with
 | .agg vs=>(match ti t with
  | some x=>(match Y6 x.zc vs.toList with
   | some cs=>.v (V1.BL true cs)
   | none=>.u)
  | none=>.u)
 | v=>Sk (P6 ti t v)
def BQ (ti:Types) (s:Af) (t:TypeId):Operand→AV
 | .tmp x=>s x
 | .const v=>P7 ti t v
 | .func f=>.v (.c (.fn f []))
 | .global _=>.u
def HM (x:AV) (k:V1→Prop):Prop:=
 match x with
 | .v y=>k y
 | _=>False
def Q0 (x:AV) (k:Bool→Prop):Prop:=
 match x with
 | .v (.d (.bool b))=>k b
 | _=>False
def HN (x:AV) (k:IntKind→Int→Prop):Prop:=
 match x with
 | .v (.d (.int q n))=>k q n
 | _=>False
def BK (ti:Types) (t:TypeId) (k:TI→Prop):Prop:=
 match ti t with
 | some x=>k x
 | none=>False
def Kz (x:AV) (k:Bool→Nat→List D→Prop):Prop:=
 match x with
 | .v (.d (.list ag sz rows))=>k ag sz rows
 | .v (.c (.lst _ ag sz rows))=>k ag sz rows
 | .v (.c (.nils ag sz))=>k ag sz []
 | .v (.c (.tl ag sz rows))=>k ag sz rows
 | _=>False
def EV (ti:Types) (t:TypeId) (x:AV) (h:Heap) (k:Out→Prop):Prop:=
 BK ti t fun i=>
 match x with
 | .v (.c (.ptr id o))=>match h id with
  | some (.cells cs)=>Bq (Nat.ble (o+i.size) cs.length) (k ⟨.v (V1.BL (Ax i.desc) ((cs.drop o).take i.size)),[id],[]⟩)
  | _=>False
 | .v (.c (.row ag sz d))=>Bq (Ax i.desc==ag) (Bq (Nat.beq sz i.size) (k ⟨.v (.d d),[],[]⟩))
 | .v (.c (.rp cs))=>Bq (Nat.ble i.size cs.length) (k ⟨.v (V1.BL (Ax i.desc) ((cs.take i.size).map CV.d)),[],[]⟩)
 | .v (.c (.ap id base sz kk o))=>match h id with
  | some (.cells cs)=>(match KR (cs.drop base)with
   | some ds=>∃(n:Nat) (r:D),Nat.ble (n*sz) ds.length=true∧(rowsOf true sz n ds)[kk]?=some r∧Bq (Nat.ble (o+i.size) r.cells.length) (k ⟨.v (V1.BL (Ax i.desc) (((r.cells.drop o).take i.size).map CV.d)),[id],[]⟩)
   | none=>False)
  | _=>False
 | _=>False
def K2 (ti:Types) (t:TypeId) (x y:AV) (h:Heap) (k:Out→Prop):Prop:=
 BK ti t fun i=>HM y fun y=>
 match x with
 | .v (.c (.ptr id o))=>match h id with
  | some (.cells cs)=>Bq (Nat.ble (o+i.size) cs.length) (Bq (Nat.beq y.cells.length i.size)
    (k ⟨.u,[id],[(id,.cells (cs.take o++y.cells++cs.drop (o+i.size)))]⟩))
  | _=>False
 | _=>False
def K3 (ti:Types) (t:TypeId) (x:AV) (f:Nat) (k:Out→Prop):Prop:=
 BK ti t fun i=>
 match i.desc with
 | .struct fs=>match fs[f]? with
  | some fd=>BK ti fd.type fun j=>Bq (Nat.blt 0 j.size)<|
   match x with
   | .v (.c (.ptr id o))=>k ⟨.v (.c (.ptr id (o+fd.offset))),[],[]⟩
   | .v (.c (.row _ _ d))=>k ⟨.v (.c (.rp (d.cells.drop fd.offset))),[],[]⟩
   | .v (.c (.rp cs))=>k ⟨.v (.c (.rp (cs.drop fd.offset))),[],[]⟩
   | .v (.c (.ap id b sz kk o))=>k ⟨.v (.c (.ap id b sz kk (o+fd.offset))),[],[]⟩
   | _=>False
  | none=>False
 | _=>False
def K4 (ti:Types) (t:TypeId) (x i:AV) (k:Out→Prop):Prop:=
 HN i fun _ n=>BK ti t fun q=>
 match q.desc with
 | .slice e=>BK ti e fun j=>match x with
  | .v (.c (.sl id len))=>∃p:Nat,(n=(p:Int)∧p<len)∧k ⟨.v (.c (.ptr id (p*j.size))),[],[]⟩
  | x=>Kz x fun ag sz rows=>Bq (Ax j.desc==ag)<| Bq (Nat.beq sz j.size)<|
   ∃r,0≤n∧rows[n.toNat]?=some r∧k ⟨.v (.c (.row ag sz r)),[],[]⟩
 | .array len e=>BK ti e fun j=>
  match x with
  | .v (.c (.ptr id o))=>0≤n∧n<len∧∃c:Bool,(match c with
   | true=>k ⟨.v (.c (.ptr id (o+n.toNat*j.size))),[],[]⟩
   | false=>k ⟨.v (.c (.ap id o j.size n.toNat 0)),[],[]⟩)
  | _=>False
 | _=>False
def P8 (M:BS) (ti:Types) (t:TypeId) (x:AV) (k:Out→Prop):Prop:=
 BK ti t fun q=>
 match q.desc with
 | .slice _=>match x with
  | .v (.c (.sl _ n))=>∃z:Int,(n:Int)=z∧k ⟨.v (.d (.int .i64 z)),[],[]⟩
  | x=>Kz x fun _ _ rows=>∃z:Int,M.lenI rows=z∧k ⟨.v (.d (.int .i64 z)),[],[]⟩
 | .string=>match x with
  | .v (.d (.str s))=>∃z:Int,M.szI s=z∧k ⟨.v (.d (.int .i64 z)),[],[]⟩
  | _=>False
 | .array n _=>k ⟨.v (.d (.int .i64 n)),[],[]⟩
 | _=>False
def HK:Bool→Bool
 | true=>false
 | false=>true
def Sl:Bool→Bool→Bool
 | true,b=>b
 | false,b=>HK b
def Vy (M:BS) (op:BinOp) (q:IntKind) (a b:Int) (k:D→Prop):Prop:=
 match op with
 | .add=>∃z,q.wrap (a+b)=z∧k (.int q z)
 | .sub=>∃z,q.wrap (a - b)=z∧k (.int q z)
 | .mul=>∃z,q.wrap (a*b)=z∧k (.int q z)
 | .quo=>∃z,b≠0∧q.wrap (a.tdiv b)=z∧k (.int q z)
 | .rem=>∃z,b≠0∧a.tmod b=z∧k (.int q z)
 | .eql=>M.split (M.eqI a b) fun q=>k (.bool q)
 | .neq=>M.split (M.eqI a b) fun q=>k (.bool (HK q))
 | .lss=>M.split (M.ltI a b) fun q=>k (.bool q)
 | .leq=>M.split (M.leI a b) fun q=>k (.bool q)
 | .gtr=>M.split (M.ltI b a) fun q=>k (.bool q)
 | .geq=>M.split (M.leI b a) fun q=>k (.bool q)
 | _=>False
def Vz (M:BS) (op:BinOp) (a b:ByteArray) (k:D→Prop):Prop:=
 match op with
 | .add=>∃c,a++b=c∧((a.size+b.size:Nat):Int)≤IntKind.i64.max∧k (.str c)
 | .eql=>M.split (M.eqS a b) fun q=>k (.bool q)
 | .neq=>M.split (M.eqS a b) fun q=>k (.bool (HK q))
 | .lss=>M.split (M.ltS a b) fun q=>k (.bool q)
 | _=>False
def J5 (op:BinOp) (c:Bool) (k:D→Prop):Prop:=
 match op with
 | .eql=>k (.bool c)
 | .neq=>k (.bool (HK c))
 | _=>False
def P9 (M:BS) (ti:Types) (op:BinOp) (t:TypeId) (x y:AV) (k:Out→Prop):Prop:=
 let kd (d:D):Prop:=k ⟨.v (.d d),[],[]⟩
 match x,y with
 | .v (.d (.int q a)),.v (.d (.int q' b))=>Bq (decide (q=q')) (Vy M op q a b kd)
 | .v (.d (.str a)),.v (.d (.str b))=>Vz M op a b kd
 | .v (.d (.bool a)),.v (.d (.bool b))=>BK ti t fun i=>match i.desc with
  | .bool=>(match op with
   | .eql=>∃q,Sl a b=q∧kd (.bool q)
   | .neq=>∃q,HK (Sl a b)=q∧kd (.bool q)
   | _=>False)
  | _=>False
 | .v (.c (.ptr _ _)),.v (.c .nilp)=>BK ti t fun i=>match i.desc with
  | .pointer _=>J5 op false kd
  | _=>False
 | .v (.c .nilp),.v (.c .nilp)=>BK ti t fun i=>match i.desc with
  | .pointer _=>J5 op true kd
  | _=>False
 | .v (.c (.map _)),.v (.c .nilm)=>BK ti t fun i=>match i.desc with
  | .map _ _=>J5 op false kd
  | _=>False
 | .v (.c .nilm),.v (.c .nilm)=>BK ti t fun i=>match i.desc with
  | .map _ _=>J5 op true kd
  | _=>False
 | _,_=>False
def Sm (op:UnOp) (x:AV) (k:Out→Prop):Prop:=
 match op,x with
 | .not,.v (.d (.bool b))=>∃q,HK b=q∧k ⟨.v (.d (.bool q)),[],[]⟩
 | .neg,.v (.d (.int q a))=>∃z,q.wrap (0 - a)=z∧k ⟨.v (.d (.int q z)),[],[]⟩
 | _,_=>False
def Mj:List AV→Option (List Id)
 | []=>some []
 | .v (.c (.ptr i 0))::r=>match Mj r with
  | some l=>some (i::l)
  | none=>none
 | _::_=>none
def Bh (m:List Id) (fresh:Nat):Id→Id
 | .ext j=>match m[j]? with
  | some i=>i
  | none=>.loc (fresh+31)
 | .loc k=>.loc (fresh+(if k<31 then k else 31))
def J6:List AV→Option (List V1)
 | []=>some []
 | .v x::r=>match J6 r with
  | some l=>some (x.norm::l)
  | none=>none
 | _::_=>none
def Ni (m:List Id) (r:Id→Id):List AQ→List (Id×AQ)
 | []=>[]
 | o::os=>match m with
  | i::is=>(i,o.BW r)::Ni is r os
  | []=>[]
def DM (fresh:Nat) (r:Id→Id):Nat→List AQ→List (Id×AQ)
 | _,[]=>[]
 | k,o::os=>(.loc (fresh+k),o.BW r)::DM fresh r (k+1) os
def Ka (P:Program) (I:Inv) (f:FuncId) (args:List V1) (fresh:Nat) (h:Heap) (k:Out→Prop):Prop:=
 ∃(m:List Id) (targs:List V1) (pre:List AQ) (res:AV) (post new:List AQ),
  AW P I f targs pre res post new∧args=targs.map (V1.BW (Bh m fresh))∧m.length=pre.length∧m.Nodup∧
  (∀(j:Nat) i o,m[j]?=some i→pre[j]?=some o→h i=some (o.BW (Bh m fresh)))∧CF pre post∧new.length≤31∧
  k ⟨res.BW (Bh m fresh),m,Ni m (Bh m fresh) post++DM fresh (Bh m fresh) 0 new⟩
def withArgs (l:List AV) (k:List V1→Prop):Prop:=
 match J6 l with
 | some xs=>k xs
 | none=>False
def K5 (M:BS) (f:AV) (args:List AV) (fresh:Nat) (h:Heap) (k:Out→Prop):Prop:=
 match f with
 | .v (.c (.fn n cap))=>withArgs args fun xs=>M.lock fun _=>Ka M.P M.I n (xs++cap.map (fun i=>V1.c (.ptr i 0))) fresh h k
 | .v (.c (.bm n i))=>withArgs args fun xs=>M.lock fun _=>Ka M.P M.I n (V1.c (.ptr i 0)::xs) fresh h k
 | _=>False
def C8 (ti:Types) (s:Af):List Operand→List TypeId→List AV
 | x::xs,t::ts=>BQ ti s t x::C8 ti s xs ts
 | x::xs,[]=>BQ ti s 0 x::C8 ti s xs []
 | [],_=>[]
def ptrTo (n:Nat):AV:=.v (.c (.ptr (.loc n) 0))
def Sn (q:Bool) (a b:AV):AV:=
 match q with
 | true=>a
 | false=>b
def Q1 (ti:Types):List Field→Bool
 | []=>true
 | f::r=>match ti f.type with
  | some _=>Q1 ti r
  | none=>false
def Q2 (ti:Types) (s:Af) (fs:List Field) (cs:List CV):List (Nat×Operand)→(List CV→Prop)→Prop
 | [],k=>k cs
 | (i,x)::r,k=>match fs[i]? with
  | some fd=>BK ti fd.type fun j=>HM (BQ ti s fd.type x) fun y=>Bq (Nat.beq y.cells.length j.size)<| Bq (Nat.ble (fd.offset+j.size) cs.length)<|
    Q2 ti s fs (cs.take fd.offset++y.cells++cs.drop (fd.offset+j.size)) r k
  | none=>False
def Q3 (ti:Types) (s:Af) (e:TypeId) (sz:Nat) (cs:List CV):List (Nat×Operand)→(List CV→Prop)→Prop
 | [],k=>k cs
 | (i,x)::r,k=>HM (BQ ti s e x) fun y=>Bq (Nat.beq y.cells.length sz)<| Bq (Nat.ble (i*sz+sz) cs.length)<|
   Q3 ti s e sz (cs.take (i*sz)++y.cells++cs.drop (i*sz+sz)) r k
def K6 (ti:Types) (s:Af) (t:TypeId) (parts:List (Nat×Operand)) (k:Out→Prop):Prop:=
 BK ti t fun q=>match q.desc with
 | .struct fs=>Bq (Q1 ti fs.toList)<| Q2 ti s fs.toList q.zc parts fun cs=>k ⟨.v (V1.BL true cs),[],[]⟩
 | .array _ e=>BK ti e fun j=>Q3 ti s e j.size q.zc parts fun cs=>k ⟨.v (V1.BL true cs),[],[]⟩
 | _=>False
def Q4 (ti:Types) (s:Af) (e:TypeId) (ag:Bool) (sz:Nat):Nat→List (Nat×Operand)→(List D→Prop)→Prop
 | _,[],k=>k []
 | n,(i,x)::r,k=>Bq (Nat.beq i n)<| match BQ ti s e x with
  | .v y=>match y.norm with
   | .d d=>Bq (d.isAgg==ag)<| Bq (Nat.beq d.cells.length sz)<| Q4 ti s e ag sz (n+1) r fun ds=>k (d::ds)
   | _=>False
  | _=>False
def Ej (ti:Types) (s:Af) (t:TypeId) (len:Nat) (parts:List (Nat×Operand)) (k:Out→Prop):Prop:=
 BK ti t fun q=>match q.desc with
 | .slice e=>BK ti e fun j=>Bq (Nat.ble (len*j.size) 16777216)<| Bq (Nat.beq parts.length len)<| Bq (Nat.blt 0 j.size)<| Q4 ti s e (Ax j.desc) j.size 0 parts fun ds=>
   k ⟨.v (.c (.tl (Ax j.desc) j.size ds)),[],[]⟩
 | _=>False
def Jj (ti:Types) (s:Af) (e:TypeId) (sz:Nat):Nat→List (Nat×Operand)→(List CV→Prop)→Prop
 | _,[],k=>k []
 | n,(i,x)::r,k=>Bq (Nat.beq i n)<| match BQ ti s e x with
  | .v y=>Bq (Nat.beq y.cells.length sz)<| Jj ti s e sz (n+1) r fun cs=>k (y.cells++cs)
  | _=>False
def GD (ti:Types) (s:Af) (t:TypeId) (len:Nat) (parts:List (Nat×Operand)) (fresh:Nat) (k:Out→Prop):Prop:=
 BK ti t fun q=>match q.desc with
 | .slice e=>BK ti e fun j=>Bq (Nat.ble (len*j.size) 16777216)<| Bq (Nat.beq parts.length len)<| Bq (Nat.blt 0 j.size)<| Jj ti s e j.size 0 parts fun cs=>
   k ⟨.v (.c (.sl (.loc fresh) len)),[],[(.loc fresh,.cells cs)]⟩
 | _=>False
def Kb (M:BS) (ag:Bool) (sz:Nat) (e:TypeId) (bytes fresh:Nat) (isNil:Bool) (rows ys:List D) (k:Out→Prop):Prop:=
 (M.lock fun _=>rows.length+ys.length≤maxLen∧(rows.length+ys.length)*bytes≤140737488355328)∧∃out,rows++ys=out∧∃own:Bool,match own with
  | true=>(isNil=true∨ys≠[])∧k ⟨.v (.c (.lst (.loc fresh) ag sz out)),[],[(.loc fresh,.tok out.length sz e)]⟩
  | false=>k ⟨.v (.d (.list ag sz out)),[],[]⟩
def Jk (M:BS) (ti:Types) (t:TypeId) (x y:AV) (fresh:Nat) (h:Heap) (k:Out→Prop):Prop:=
 BK ti t fun q=>match q.desc with
 | .slice e=>BK ti e fun j=>Bq (Nat.blt 0 j.size)<| Kz y fun ag sz ys=>Bq (Ax j.desc==ag)<| Bq (Nat.beq sz j.size)<|
  match x with
  | .v (.c (.nils ag' sz'))=>Kb M (Ax j.desc) j.size e j.bytes fresh true [] ys k
  | .v (.c (.tl ag' sz' rows))=>Bq (Ax j.desc==ag')<| Bq (Nat.beq sz' j.size)<| Kb M (Ax j.desc) j.size e j.bytes fresh false rows ys k
  | .v (.c (.lst (.loc i) ag' sz' rows))=>Bq (Ax j.desc==ag')<| Bq (Nat.beq sz' j.size)<| match h (.loc i)with
   | some (.tok n sz2 e2)=>Bq (Nat.beq sz2 j.size)<| Bq (Nat.beq e2 e)<| rows.length=n∧(M.lock fun _=>rows.length+ys.length≤maxLen∧(rows.length+ys.length)*j.bytes≤140737488355328)∧
     ∃out,rows++ys=out∧k ⟨.v (.c (.lst (.loc i) (Ax j.desc) j.size out)),[.loc i],[(.loc i,.tok out.length j.size e)]⟩
   | _=>False
  | _=>False
 | _=>False
def Ru (ti:Types) (s:Af) (dflt:Int) (x:Option Operand) (k:Int→Prop):Prop:=
 match x with
 | none=>k dflt
 | some x=>HN (BQ ti s 3 x) fun _ n=>k n
def K7 (M:BS) (ti:Types) (s:Af) (t:TypeId) (x:AV) (lo hi mx:Option Operand) (k:Out→Prop):Prop:=
 BK ti t fun q=>match q.desc with
 | .string=>match x with
  | .v (.d (.str b))=>Ru ti s 0 lo fun l=>Ru ti s (M.szI b) hi fun u=>(match mx with
   | none=>∃r,(0≤l∧l≤u∧u≤M.szI b)∧b.extract l.toNat u.toNat=r∧k ⟨.v (.d (.str r)),[],[]⟩
   | some _=>False)
  | _=>False
 | .slice e=>BK ti e fun j=>Kz x fun ag sz rows=>Bq (Ax j.desc==ag)<| Bq (Nat.beq sz j.size)<| Ru ti s 0 lo fun l=>Ru ti s (M.lenI rows) hi fun u=>
   (match mx with
    | none=>∃out,(0≤l∧l≤u∧u≤M.lenI rows)∧(rows.take u.toNat).drop l.toNat=out∧k ⟨.v (.d (.list ag sz out)),[],[]⟩
    | some m=>match hi with
     | none=>False
     | some _=>HN (BQ ti s 3 m) fun _ v=>∃out,(0≤l∧l≤u∧u≤M.lenI rows∧v=u)∧(rows.take u.toNat).drop l.toNat=out∧k ⟨.v (.c (.tl ag sz out)),[],[]⟩)
 | _=>False
def Jl (ti:Types) (t:TypeId) (x i:AV) (k:Out→Prop):Prop:=
 HN i fun _ n=>BK ti t fun q=>match q.desc with
 | .string=>match x with
  | .v (.d (.str b))=>∃z:Int,(0≤n∧(b[n.toNat]?).map (fun u=>(u.toNat:Int))=some z)∧k ⟨.v (.d (.int .u8 z)),[],[]⟩
  | _=>False
 | .array len e=>BK ti e fun j=>match x with
  | .v (.d (.agg cs))=>Bq (Nat.beq cs.length (len*j.size))<| ∃r,0≤n∧(rowsOf (Ax j.desc) j.size len cs)[n.toNat]?=some r∧k ⟨.v (.d r),[],[]⟩
  | _=>False
 | _=>False
def Nj:V1→Bool
 | .d x=>x.isAgg
 | .agg _=>true
 | _=>false
def Jm (ti:Types) (t:TypeId) (x:AV) (f:Nat) (k:Out→Prop):Prop:=
 BK ti t fun i=>match i.desc with
 | .struct fs=>match fs[f]? with
  | some fd=>BK ti fd.type fun j=>HM x fun y=>Bq (Nj y)<| Bq (Nat.ble (fd.offset+j.size) y.cells.length)<| k ⟨.v (V1.BL (Ax j.desc) ((y.cells.drop fd.offset).take j.size)),[],[]⟩
  | none=>False
 | _=>False
def plainKey:TypeDesc→Bool
 | .int _=>true
 | .string=>true
 | _=>false
def K8 (x:TI):Bool:=
 match x.zero with
 | .agg _=>Ax x.desc
 | .tuple _=>false
 | _=>HK (Ax x.desc)
def Jn (ti:Types) (t:TypeId) (x key:AV) (ok:Bool) (k:Out→Prop):Prop:=
 BK ti t fun q=>match q.desc with
 | .map kt et=>BK ti kt fun kk=>BK ti et fun j=>Bq (plainKey kk.desc)<| Bq (K8 j)<| match x with
  | .v (.c .nilm)=>match ok with
   | true=>k ⟨.t [V1.BL (Ax j.desc) j.zc,.d (.bool false)],[],[]⟩
   | false=>k ⟨.v (V1.BL (Ax j.desc) j.zc),[],[]⟩
  | _=>False
 | _=>False
def Sp:List V1→Nat→Option V1
 | [],_=>none
 | x::r,n=>match n with
  | 0=>some x
  | m+1=>Sp r m
def Hx (x:AV) (i:Nat) (k:Out→Prop):Prop:=
 match x with
 | .t xs=>match Sp xs i with
  | some y=>k ⟨.v y,[],[]⟩
  | none=>False
 | _=>False
def Hy (ti:Types) (src dst:TypeId) (x:AV) (k:Out→Prop):Prop:=
 BK ti src fun a=>BK ti dst fun b=>match a.desc,b.desc with
 | .int _,.int q=>HN x fun _ n=>∃z,q.wrap n=z∧k ⟨.v (.d (.int q z)),[],[]⟩
 | _,_=>False
def CM (M:BS) (ti:Types) (o:Oper) (fresh:Nat) (s:Af) (h:Heap) (k:Out→Prop):Prop:=
 match o.op with
 | .move x | .assign x=>k ⟨BQ ti s o.type x,[],[]⟩
 | .pick c a b=>Q0 (BQ ti s 0 c) fun q=>k ⟨Sn q (BQ ti s o.type a) (BQ ti s o.type b),[],[]⟩
 | .alloc t=>BK ti t fun i=>k ⟨ptrTo fresh,[],[(.loc fresh,.cells i.zc)]⟩
 | .box t x=>HM (BQ ti s t x) fun y=>k ⟨ptrTo fresh,[],[(.loc fresh,.cells y.cells)]⟩
 | .load t x=>EV ti t (BQ ti s 0 x) h k
 | .store t x y=>K2 ti t (BQ ti s 0 x) (BQ ti s t y) h k
 | .fieldAddr t x f=>K3 ti t (BQ ti s 0 x) f k
 | .indexAddr t x i=>K4 ti t (BQ ti s t x) (BQ ti s 3 i) k
 | .nilCheck x=>match BQ ti s 0 x with
  | .v (.c (.ptr i q))=>k ⟨.v (.c (.ptr i q)),[],[]⟩
  | _=>False
 | .binOp op t x y _=>P9 M ti op t (BQ ti s t x) (BQ ti s t y) k
 | .unOp op _ x=>Sm op (BQ ti s o.type x) k
 | .makeFunc fn first captured=>match fn,first.toList with
  | .func f,[]=>match Mj (captured.toList.map (BQ ti s 0))with
   | some l=>k ⟨.v (.c (.fn f l)),[],[]⟩
   | none=>False
  | .func f,[x]=>(match captured.toList,BQ ti s 0 x with
   | [],.v (.c (.ptr i 0))=>k ⟨.v (.c (.bm f i)),[],[]⟩
   | _,_=>False)
  | _,_=>False
 | .build t parts=>K6 ti s t parts.toList k
 | .buildSlice t len parts=>∃c:Bool,match c with
  | true=>Ej ti s t len parts.toList k
  | false=>GD ti s t len parts.toList fresh k
 | .lookup t x i ok=>Jn ti t (BQ ti s t x) (BQ ti s 0 i) ok k
 | .slice t x lo hi mx=>K7 M ti s t (BQ ti s t x) lo hi mx k
 | .index t x i=>Jl ti t (BQ ti s t x) (BQ ti s 3 i) k
 | .field t x f=>Jm ti t (BQ ti s t x) f k
 | .extract x i=>Hx (BQ ti s 0 x) i k
 | .convert a b x=>Hy ti a b (BQ ti s a x) k
 | .call c=>match c.callee with
  | .builtin .len=>match c.args.toList,c.argTypes.toList with
   | [x],[t]=>P8 M ti t (BQ ti s t x) k
   | _,_=>False
  | .builtin .append=>match c.args.toList,c.argTypes.toList with
   | [x,y],[t,t']=>Bq (Nat.beq t t')<| Jk M ti t (BQ ti s t x) (BQ ti s t y) fresh h k
   | _,_=>False
  | .value f=>K5 M (BQ ti s 0 f) (C8 ti s c.args.toList c.argTypes.toList) fresh h k
  | _=>False
 | _=>False
end Go.AM
namespace Go.AM
open Go Go.RowKit
section
variable {C:Cx}{F:Nat→Prop}{s:Af}{h:Heap}{g:Ac}{a:Act}{w:World}
theorem Ap.put {dst:Option Tmp}{v:AV}{u:Value}(R:Ap C F s h g a w) (hd:∀d,dst=some d→d<C.nt)
  (hr:BG w (BN (zone g h) C.X) g h v u):Ap C F (DY s dst v) h g (a.put dst u) w:=by
 cases dst with
 | none=>exact R
 | some d=>
  have hlt:=hd d rfl
  refine {R with size:=by simpa [Act.put] using R.size,defers:=R.defers,slots:=fun t=>?_}
  simp only[DY,Act.put]
  by_cases ht:t=d
  ·subst ht
   have:(a.tmps.setIfInBounds t u).getD t undef=u:=by simp[R.size,hlt]
   rw[this,if_pos rfl]
   exact hr
  ·have:(a.tmps.setIfInBounds d u).getD t undef=a.tmps.getD t undef:=by
    simp[Ne.symm ht]
   rw[this,if_neg ht]
   exact R.slots t
theorem Ap.BH {F':Nat→Prop}(R:Ap C F s h g a w) (hF:∀n,F' n→F n):Ap C F' s h g a w:=
 {R with free:=fun n hn=>R.free n (hF n hn)}
theorem Q5 {X:Av}(R:Db w X g h) {b o:Nat}(hz:zone g h b o):b<w.heap.size:=by
 obtain⟨i,ob,hi,h1⟩:=hz
 exact (R.objs i ob hi).lt h1.G4
theorem Ap.alloc (R:Ap C F s h g a w) {n:Nat}(hf:F n) (c:Array Value) (e:TypeId) (cs:List CV) (hs:c.size=cs.length)
  (hr:∀(j:Nat) x u,cs[j]?=some x→c[j]?=some u→BM w (BN (zone g h) C.X) g h x u):
  Ap C (fun k=>F k∧k≠n) s (AX h (.loc n) (.cells cs)) (Au g (.loc n) (.pointer (some ⟨w.heap.size,0,none⟩))) a (w.alloc (.cells c e)):=by
 have hX:∀b o,C.X b o→b<w.heap.size:=fun b o hx=>Nat.lt_of_lt_of_le (R.xs b o hx) R.frame.size
 obtain⟨hgn,hhn⟩:=R.free n hf
 have hne:∀{i:Id} {v:Value},g i=v→v≠undef→i≠ .loc n:=by
  rintro i v hv hu rfl
  exact hu (hv▸hgn)
 have E:IM w (BN (zone g h) C.X) g h (w.alloc (.cells c e)) (BN (zone (Au g (.loc n) (.pointer (some ⟨w.heap.size,0,none⟩))) (AX h (.loc n) (.cells cs))) C.X)
   (Au g (.loc n) (.pointer (some ⟨w.heap.size,0,none⟩))) (AX h (.loc n) (.cells cs)):=by
  have now:∀{i:Id},isTu (g i)→i≠ .loc n:=by
   rintro i hi rfl
   rw[hgn]at hi
   exact Be hi
  refine⟨fun b o u hu hz=>?_,fun i b hb=>?_,fun i q hq=>?_,fun i hi=>?_,fun i k sz e' hi hk=>?_,fun i hi=>by simpa [Au,now hi] using hi,
   fun i hi hk=>⟨by simpa [AX,now hi] using hk,by simp[Au,now hi]⟩⟩
  ·have hlt:=World.block_lt_of_cell? w ⟨b,o,none⟩ hu
   refine⟨(World.cell?_alloc_lt w _ ⟨b,o,none⟩ hlt).trans hu,?_⟩
   rintro (⟨i,ob,hi,h1⟩ | hx)
   ·by_cases hin:i= .loc n
    ·subst hin
     simp only[AX,if_true,Option.some.injEq]at hi
     subst hi
     have:=Bi.ptr (q:=w.heap.size) (o:=0) (by simpa [Au,Bg] using h1)
     simp at hlt
     omega
    ·simp only[AX,Au,if_neg hin]at hi h1
     exact hz (.inl ⟨i,ob,hi,h1⟩)
   ·exact hz (.inr hx)
  ·exact if_neg (hne hb (by simp[undef]))
  ·exact if_neg (hne hq (by simp[undef]))
  ·have:i≠ .loc n:=by rintro rfl;rw[hgn]at hi;exact hi
   simpa [Au,this] using hi
  ·have:i≠ .loc n:=by rintro rfl;rw[hgn]at hi;exact hi
   refine⟨k,Nat.le_refl _,by simpa [AX,this] using hk,fun _=>by simp[Au,this]⟩
 refine R.step (F':=fun k=>F k∧k≠n) (fun i=>i= .loc n) E ?_ ?_ ?_ ?_ ?_ ?_ ?_ ?_
 ·exact⟨rfl,rfl,rfl,by simp,fun b hb _=>Below.heap_alloc w _ b hb,fun b o u hu _=>(World.cell?_alloc_lt w _ ⟨b,o,none⟩ (World.block_lt_of_cell? w ⟨b,o,none⟩ hu)).trans hu⟩
 ·intro i hi
  simp[AX,Au,hi]
 ·intro i o b _ hi hb
  exact Below.heap_alloc w _ b ((R.heap.objs i o hi).lt hb)
 ·rintro i o rfl ho
  simp[AX]at ho
  subst ho
  exact⟨w.heap.size,c,e,by simp[Au],heap_alloc_new w _,hs,fun j x u hx hu=>E.KY (hr j x u hx hu)⟩
 ·rintro i o b p rfl ho hb
  simp[AX]at ho
  subst ho
  have:=Bi.ptr (q:=w.heap.size) (o:=0) (by simpa [Au,Bg] using hb)
  exact .inr (by omega)
 ·rintro i j _ _ _ rfl rfl _ _ _ _
  rfl
 ·intro j hj
  exact absurd hj (by simp)
 ·rintro k ⟨hk,hkn⟩
  have:=R.free k hk
  simp[Au,AX,hkn,this]
theorem Ap.store (R:Ap C F s h g a w) {id:Id}{cs cs':List CV}(hid:h id=some (.cells cs)) {b:Nat}{c c':Array Value}{e:TypeId}
  (hg:g id= .pointer (some ⟨b,0,none⟩)) (hb:w.heap[b]?=some (.cells c e (0,0))) (hs:c'.size=cs'.length)
  (hr:∀(j:Nat) x u,cs'[j]?=some x→c'[j]?=some u→BM w (BN (zone g h) C.X) g h x u):
  Ap C F s (AX h id (.cells cs')) g a (w.setRow b c'):=by
 have hzb:∀o,zone g h b o:=fun o=>⟨id,_,hid,by simp[Bg,hg,Bi,blk]⟩
 have hz1:∀i ob b' o,AX h id (.cells cs') i=some ob→Bg (g i) ob b' o→zone g h b' o:=by
  intro i ob b' o hi h1
  by_cases hin:i=id
  ·subst hin
   simp[AX]at hi
   subst hi
   exact⟨i,_,hid,h1⟩
  ·simp only[AX,if_neg hin]at hi
   exact⟨i,ob,hi,h1⟩
 have hcell:∀b' o u,w.cell? ⟨b',o,none⟩=some u→¬zone g h b' o→(w.setRow b c').cell? ⟨b',o,none⟩=some u:=by
  intro b' o u hu hz
  have hne:b'≠b:=by rintro rfl;exact hz (hzb o)
  exact (cell_setRow_other w b c' ⟨b',o,none⟩ hne).trans hu
 have E:IM w (BN (zone g h) C.X) g h (w.setRow b c') (BN (zone g (AX h id (.cells cs'))) C.X) g (AX h id (.cells cs')):=by
  refine⟨fun b' o u hu hz=>⟨hcell b' o u hu (fun hz'=>hz (.inl hz')),?_⟩,fun _ _ _=>rfl,fun _ _ _=>rfl,fun _ hi=>hi,fun i k sz e' _ hk=>?_,fun _ hi=>hi,fun i hi hk=>?_⟩
  ·rintro (⟨i,ob,hi,h1⟩ | hx)
   ·exact hz (.inl (hz1 i ob b' o hi h1))
   ·exact hz (.inr hx)
  ·have hin:i≠id:=by rintro rfl;simp[AX]at hk
   exact⟨k,Nat.le_refl _,by simpa [AX,hin] using hk,fun _=>rfl⟩
  ·have hin:i≠id:=by rintro rfl;simp[AX,isLive]at hk
   exact⟨by simpa [AX,hin] using hk,rfl⟩
 refine R.step (fun i=>i=id) E ?_ ?_ ?_ ?_ ?_ ?_ ?_ ?_
 ·exact⟨rfl,rfl,rfl,by simp,fun b' _ hz=>setRow_other w b b' c' (fun e=>hz 0 (e▸hzb 0)),hcell⟩
 ·intro i hi
  simp[AX,hi]
 ·intro i o b' hi ho hb'
  refine setRow_other w b b' c' ?_
  rintro rfl
  exact hi (R.heap.sep i id o _ b' ho hid hb' (by simp[ET,hg,Bi,blk]))
 ·rintro i o rfl ho
  simp[AX]at ho
  subst ho
  exact⟨b,c',e,hg,setRow_heap w b c c' e _ hb,hs,fun j x u hx hu=>E.KY (hr j x u hx hu)⟩
 ·rintro i o b' p rfl ho hb'
  simp[AX]at ho
  subst ho
  exact .inl ⟨_,_,rfl,hid,hb'⟩
 ·rintro i j _ _ _ rfl rfl _ _ _ _
  rfl
 ·rintro j rfl
  exact .refl _
 ·intro k hk
  obtain⟨h1,h2⟩:=R.free k hk
  have hin:Id.loc k≠id:=by rintro rfl;rw[h2]at hid;simp at hid
  exact⟨h1,by simp[AX,hin,h2]⟩
end
def Bm (C:Cx) (o:Oper) (fresh:Nat) (s:Af) (h:Heap) (out:Out):Prop:=
 ∀(F:Nat→Prop) (σs:Af) (σh:Heap) a w Q,Rel C F σs σh a w→(∀t,Operand.tmp t∈o.op.operands.toList→σs t=s t)→(∀i∈out.rd,σh i=h i)→
  (∀k,k<32→F (fresh+k))→(∀d,o.dst=some d→d<C.nt)→
  o.wp C.P a w (fun a' w'=>Rel C (fun n=>F n∧¬(fresh≤n∧n<fresh+32)) (DY σs o.dst out.val) (BP σh out.wr) a' w') Q
theorem AY {C:Cx}{o:Oper}{fresh:Nat}{s:Af}{h:Heap}{v:AV}{rd:List Id}
  (hr:∀F σs σh g a w,Ap C F σs σh g a w→(∀t,Operand.tmp t∈o.op.operands.toList→σs t=s t)→(∀i∈rd,σh i=h i)→
   ∃u,(execOp a.eval o).run C.P w= .ok (.value u) w∧BG w (BN (zone g σh) C.X) g σh v u):Bm C o fresh s h ⟨v,rd,[]⟩:=by
 rintro F σs σh a w Q ⟨g,R⟩ ho hrd hF hd
 obtain⟨u,hu,hv⟩:=hr F σs σh g a w R ho hrd
 unfold Oper.wp
 rw[hu]
 exact⟨g,(R.put hd hv).BH (fun n hn=>hn.1)⟩
theorem K9 {C:Cx}{o:Oper}{fresh:Nat}{s:Af}{h:Heap}{cs:List CV}
  (hr:∀F σs σh g a w,Ap C F σs σh g a w→(∀t,Operand.tmp t∈o.op.operands.toList→σs t=s t)→
   ∃c e,(execOp a.eval o).run C.P w= .ok (.value (.pointer (some ⟨w.heap.size,0,none⟩))) (w.alloc (.cells c e))∧c.size=cs.length∧
    ∀(j:Nat) x u,cs[j]?=some x→c[j]?=some u→BM w (BN (zone g σh) C.X) g σh x u):Bm C o fresh s h ⟨ptrTo fresh,[],[(.loc fresh,.cells cs)]⟩:=by
 rintro F σs σh a w Q ⟨g,R⟩ ho hrd hF hd
 obtain⟨c,e,hu,hs,hc⟩:=hr F σs σh g a w R ho
 unfold Oper.wp
 rw[hu]
 have R':=R.alloc (n:=fresh) (hF 0 (by omega)) c e cs hs hc
 refine⟨_,(R'.put hd (v:=ptrTo fresh) ⟨⟨w.heap.size,by simp[Au]⟩,by simp[Au,DG]⟩).BH (fun n hn=>⟨hn.1,fun e=>hn.2 (by omega)⟩)⟩
theorem QA {w:World}{Z:Av}{g:Ac}{h:Heap}(ti:Types) (t:TypeId) (v:Value):BG w Z g h (Sk (P6 ti t v)) v:=by
  unfold P6
  split<;>first
    | exact Aj.int _ _
    | exact Aj.bool _
    | exact Aj.str _
    | exact rfl
    | (split
       · split
         · split<;>exact rfl
         · exact rfl
       · exact rfl)
    | exact trivial
theorem Wc {w:World}{Z:Av}{g:Ac}{h:Heap}{c x:CV}{v:Value}(hz:ZJ c v=some x):BM w Z g h x v:=by
 unfold ZJ at hz
 split at hz
 ·cases hz;exact rfl
 ·cases hz;exact⟨Aj.int _ _,rfl⟩
 ·cases hz;exact⟨Aj.bool _,rfl⟩
 ·cases hz;exact⟨Aj.str _,rfl⟩
 ·cases hz;exact rfl
 ·cases hz
theorem Sq {w:World}{Z:Av}{g:Ac}{h:Heap}:∀{cs xs:List CV}{vs:List Value},Y6 cs vs=some xs→vs.length=xs.length∧∀(j:Nat) x u,xs[j]?=some x→vs[j]?=some u→BM w Z g h x u
 | [],xs,[],hz=>by
  cases hz
  exact⟨rfl,fun j x u hx _=>by simp at hx⟩
 | c::cs,xs,v::vs,hz=>by
  unfold Y6 at hz
  split at hz
  ·rename_i x0 h0
   split at hz
   ·rename_i xs0 h1
    cases hz
    obtain⟨k1,k2⟩:=Sq (w:=w) (Z:=Z) (g:=g) (h:=h) h1
    refine⟨by simp[k1],fun j x u hx hu=>?_⟩
    match j with
    | 0=>simp at hx hu;subst hx;subst hu;exact Wc h0
    | j+1=>exact k2 j x u (by simpa using hx) (by simpa using hu)
   ·cases hz
  ·cases hz
 | [],_,_::_,hz=>by cases hz
 | _::_,_,[],hz=>by cases hz
theorem QB {w:World}{Z:Av}{g:Ac}{h:Heap}(ti:Types) (t:TypeId) (v:Value):BG w Z g h (P7 ti t v) v:=by
 unfold P7
 split
 ·split
  ·split
   ·rename_i cs hcs
    obtain⟨k1,k2⟩:=Sq (w:=w) (Z:=Z) (g:=g) (h:=h) hcs
    exact (BE.BL (by simpa using k1) (fun j c u hc hu=>k2 j c u hc (by simpa using hu))).1 rfl
   ·trivial
  ·trivial
 ·exact QA ti t v
theorem Ai {C:Cx}{F:Nat→Prop}{s σs:Af}{σh:Heap}{g:Ac}{a:Act}{w:World}(ti:Types) (t:TypeId) (x:Operand)
  (R:Ap C F σs σh g a w) (hx:∀k,x= .tmp k→σs k=s k):BG w (BN (zone g σh) C.X) g σh (BQ ti s t x) (a.eval x):=by
 cases x with
 | tmp k=>
  have:=R.slots k
  rw[hx k rfl]at this
  exact this
 | const v=>exact QB ti t v
 | func f=>exact⟨rfl,by simp⟩
 | global q=>trivial
section
variable {C:Cx}{ti:Types}{o:Oper}{fresh:Nat}{s:Af}{h:Heap}{k:Out→Prop}
theorem Bn {P:Program}{w w':World}{q:Sem Value}{v:Value}(h:q.run P w= .ok v w'):
  (do pure (Next.value (←q)):Sem Next).run P w= .ok (.value v) w':=by
 simp[h]
theorem AZ {t:TypeId}{k:TI→Prop}:BK ti t k↔∃i,ti t=some i∧k i:=by
 unfold BK
 split<;>simp_all
theorem DH {x:AV}{k:V1→Prop}:HM x k↔∃y,x= .v y∧k y:=by
 unfold HM
 split<;>simp_all
theorem M5 {x:AV}{k:Bool→Prop}:Q0 x k↔∃y,x= .v (.d (.bool y))∧k y:=by
 unfold Q0
 split<;>simp_all
theorem DI {x:AV}{k:IntKind→Int→Prop}:HN x k↔∃q n,x= .v (.d (.int q n))∧k q n:=by
 unfold HN
 split
 ·rename_i q n
  constructor
  ·exact fun h=>⟨q,n,rfl,h⟩
  ·rintro⟨q',n',he,hk⟩
   cases he
   exact hk
 ·rename_i hh
  constructor
  ·exact fun h=>h.elim
  ·rintro⟨q,n,rfl,_⟩;exact hh q n rfl
theorem E2 {x:AV}{k:Bool→Nat→List D→Prop}(hk:Kz x k):
  ∃ag sz rows,(∀{w:World} {Z:Av} {g:Ac} {h:Heap} {v:Value},BG w Z g h x v→Aj w Z (.list ag sz rows) v)∧k ag sz rows:=by
 unfold Kz at hk
 split at hk
 ·exact⟨_,_,_,fun r=>r,hk⟩
 ·exact⟨_,_,_,fun r=>r.1,hk⟩
 ·exact⟨_,_,_,fun r=>by rw[show _=_ from r];exact E0 _ _,hk⟩
 ·exact⟨_,_,_,fun r=>r.1,hk⟩
 ·exact hk.elim
theorem Nk {w:World}{Z:Av}{g:Ac}{h:Heap}{b:Bool}{v:Value}(r:BG w Z g h (.v (.d (.bool b))) v):v= .bool b:=by
 cases (show Aj w Z (.bool b) v from r);rfl
theorem GF {w:World}{Z:Av}{g:Ac}{h:Heap}{q:IntKind}{n:Int}{v:Value}(r:BG w Z g h (.v (.d (.int q n))) v):v= .int q n:=by
 cases (show Aj w Z (.int q n) v from r);rfl
theorem Oi {w:World}{Z:Av}{g:Ac}{h:Heap}{b:ByteArray}{v:Value}(r:BG w Z g h (.v (.d (.str b))) v):v= .string b:=by
 cases (show Aj w Z (.str b) v from r);rfl
theorem Q6 (x:Operand) (ho:o.op= .move x∨o.op= .assign x):Bm C o fresh s h ⟨BQ ti s o.type x,[],[]⟩:=by
 refine AY fun F σs σh g a w R hs _=>⟨a.eval x,?_,Ai ti o.type x R (fun t ht=>hs t ?_)⟩
 ·rcases ho with ho | ho<;>simp[execOp,ho]
 ·subst ht
  rcases ho with ho | ho<;>simp[ho,Op.operands]
theorem Uy (c x y:Operand) (ho:o.op= .pick c x y) {q:Bool}(hq:BQ ti s 0 c= .v (.d (.bool q))):
  Bm C o fresh s h ⟨Sn q (BQ ti s o.type x) (BQ ti s o.type y),[],[]⟩:=by
 refine AY fun F σs σh g a w R hs _=>?_
 have hc:=Ai ti 0 c R (s:=s) (fun t ht=>hs t (by subst ht;simp[ho,Op.operands]))
 rw[hq]at hc
 have hc:=Nk hc
 refine⟨if q then a.eval x else a.eval y,?_,?_⟩
 ·simp[execOp,ho,hc,asBool]
 ·cases q
  ·exact Ai ti o.type y R (fun t ht=>hs t (by subst ht;simp[ho,Op.operands]))
  ·exact Ai ti o.type x R (fun t ht=>hs t (by subst ht;simp[ho,Op.operands]))
theorem E3 {w:World}{Z:Av}{g:Ac}{h:Heap}{c:CV}{u:Value}(q:P4 c u):BM w Z g h c u:=by
 revert q
 unfold P4
 split<;>intro hz
 ·rw[hz.1,hz.2];exact⟨.int _ _,rfl⟩
 ·rw[hz];exact⟨.bool _,rfl⟩
 ·rw[hz];exact⟨.str _,rfl⟩
 ·exact rfl
 ·exact rfl
 ·exact rfl
 ·exact rfl
 ·exact hz
 ·exact hz.elim
theorem Sr (hti:BV C.P ti) (t:TypeId) (ho:o.op= .alloc t) {i:TI}(hi:ti t=some i):Bm C o fresh s h ⟨ptrTo fresh,[],[(.loc fresh,.cells i.zc)]⟩:=by
 refine K9 fun F σs σh g a w R hs=>?_
 obtain⟨hu,ii,h1,h2,h3,h4,h5,h6,h7⟩:=hti t i hi
 refine⟨i.zero.cells,t,?_,by rw[h5,h6],fun j c u hc hu=>?_⟩
 ·simp[execOp,ho,Instr.alloc,zeroValue,typeInfo,h1,h4,newVar,newRow]
 ·have:=h7 j c u hc hu
  revert this
  unfold P4
  split<;>intro hz
  ·rw[hz.1,hz.2];exact⟨.int _ _,rfl⟩
  ·rw[hz];exact⟨.bool _,rfl⟩
  ·rw[hz];exact⟨.str _,rfl⟩
  ·exact rfl
  ·exact rfl
  ·exact rfl
  ·exact rfl
  ·exact hz
  ·exact hz.elim
theorem Wd (t:TypeId) (x:Operand) (ho:o.op= .box t x) {y:V1}(hy:BQ ti s t x= .v y):Bm C o fresh s h ⟨ptrTo fresh,[],[(.loc fresh,.cells y.cells)]⟩:=by
 refine K9 fun F σs σh g a w R hs=>?_
 have hx:=Ai ti t x R (s:=s) (fun k hk=>hs k (by subst hk;simp[ho,Op.operands]))
 rw[hy]at hx
 obtain⟨h1,h2⟩:=BE.cells hx
 exact⟨(a.eval x).cells,t,by simp[execOp,ho,Instr.box,newVar,newRow],h1,h2⟩
end
end Go.AM
namespace Go.AM
open Go Go.RowKit
theorem Rv (v:Value) (l:List Nat) (P:Nat→Prop) (hP:∀b,P b→b∈l):∃gv,isTu gv∧gval gv=v∧∀b,Bi gv b↔P b:=by
 classical
 let l':=l.filter (fun b=>decide (P b))
 refine⟨.tuple (v::l'.map (fun b:Nat=>Value.int .i64 (b:Int))).toArray,⟨_,v,rfl,by simp⟩,by simp[gval],fun b=>⟨?_,fun hb=>?_⟩⟩
 ·rintro (h | ⟨vs,h,k,hk⟩)
  ·simp[blk]at h
  ·cases h
   simp only[List.getElem?_toArray,List.getElem?_cons_succ,List.getElem?_map,Option.map_eq_some_iff]at hk
   obtain⟨x,hx,he⟩:=hk
   have hm:=List.mem_of_getElem? hx
   simp[l']at hm
   have:x=b:=by simp at he;omega
   subst this
   exact hm.2
 ·have hm:b∈l':=by simp[l',hP b hb,hb]
  obtain⟨k,hk⟩:=List.mem_iff_getElem?.1 hm
  exact .inr ⟨_,rfl,k,by simp[hk]⟩
theorem Bi.fin (gv:Value):∃l:List Nat,∀b,Bi gv b→b∈l:=by
 cases hg:gv with
 | tuple vs=>
  refine⟨vs.toList.filterMap (fun v=>match v with | .int _ n=>some n.toNat | _=>none),fun b hb=>?_⟩
  rcases hb with h | ⟨vs',h,k,hk⟩
  ·simp[blk]at h
  ·cases h
   refine List.mem_filterMap.2 ⟨.int .i64 (b:Int),?_,by simp⟩
   have:=Array.mem_of_getElem? hk
   simpa using this
 | _=>
  refine⟨(blk gv).toList,fun b hb=>?_⟩
  rcases hb with h | ⟨vs',h,_⟩
  ·rw[hg];simpa using h
  ·cases h
theorem Bi.Qv {g:Ac}(l:List Id):∃m:List Nat,∀i∈l,∀b,Bi (g i) b→b∈m:=by
 induction l with
 | nil=>exact⟨[],by simp⟩
 | cons i l ih=>
  obtain⟨m,hm⟩:=ih
  obtain⟨m',hm'⟩:=Bi.fin (g i)
  refine⟨m'++m,fun j hj b hb=>?_⟩
  rcases List.mem_cons.1 hj with rfl | hj
  ·exact List.mem_append.2 (.inl (hm' b hb))
  ·exact List.mem_append.2 (.inr (hm j hj b hb))
theorem B9.Bw {w:World}{x:D}{v:Value}{S:Nat→Prop}(h:B9 w x v S):v.oneCell'=true:=by
 cases h with
 | con k ag sz rows x v xs U T S hcon hsz hfit hx=>exact hx.Bw
 | _=>rfl
theorem B9.isAgg {w:World}{x:D}{v:Value}{S:Nat→Prop}(h:B9 w x v S):x.isAgg=false:=by
 cases h with
 | con k ag sz rows x v xs U T S hcon=>
  cases x<;>first | rfl | simp[D.con]at hcon
 | _=>rfl
def EA:D→Bool
 | .list ..=>true
 | .box ..=>true
 | .map ..=>true
 | _=>false
theorem M6 {x:D}:EA x=true↔∃k ag sz rows,x.con=some (k,ag,sz,rows):=by
 cases x<;>simp[EA,D.con]
theorem J7 {x:D}(h:EA x=false):x.con=none:=by
 cases x<;>first | rfl | simp[EA]at h
theorem Oj {k:Kd}{ag:Bool}{sz:Nat}{rows:List D}{x:D}:IL k ag sz rows=some x↔x.con=some (k,ag,sz,rows):=by
 constructor
 ·intro h
  cases k with
  | row=>simp[IL]at h;subst h;rfl
  | flat=>simp[IL]at h
  | fmap _=>simp[IL]at h
  | map=>
   cases ag with
   | true=>simp[IL]at h;subst h;rfl
   | false=>simp[IL]at h
  | box=>
   cases ag with
   | false=>simp[IL]at h
   | true=>
    simp only[IL]at h
    split at h
    ·split at h
     ·rename_i hb
      cases h
      simp only[D.con,Nat.eq_of_beq_eq_true hb]
     ·cases h
    ·cases h
 ·intro h
  cases x<;>simp[D.con]at h
  all_goals
   obtain⟨rfl,rfl,rfl,rfl⟩:=h
   simp[IL]
theorem Ss {x:D}{k:Kd}{ag:Bool}{sz:Nat}{rows:List D}(h:x.con=some (k,ag,sz,rows)):k.Jf=false:=by
 cases x<;>simp[D.con]at h
 all_goals (obtain⟨rfl,_⟩:=h;rfl)
theorem IP {w:World}{Z:Av}{g:Ac}{h:Heap}{k:Kd}{ag:Bool}{sz:Nat}{rows:List D}{gv:Value}{x:D}(hc:IL k ag sz rows=some x):
  Bd w Z g h (.tree k ag sz rows none) gv↔isTu gv∧B9 w x (gval gv) (Bi gv):=by
 rw[Oj]at hc
 have kf:=Ss hc
 constructor
 ·rintro⟨ht,h0,hf,xs,hx,_,U,T,h1,h2,h3,h4,h5⟩
  exact⟨ht,.con k ag sz rows x _ xs U T _ hc h0 hf hx (fun i r j c hr hj=>(h1 i r j c (fun _ _ h=>by cases h) hr hj).1) (fun i r j c hr hj=>(C0.own kf).1 (h1 i r j c (fun _ _ h=>by cases h) hr hj).2)
   (fun i j b hb=>(h2 i j b hb).2) h3 h4 h5⟩
 ·rintro⟨ht,hr⟩
  generalize hgv:gval gv=v at hr
  generalize hS0:Bi gv=S at hr
  cases hr with
  | con k' ag' sz' rows' _ _ xs U T _ hcon hsz hfit hx hU hr hT hd1 hd2 hS=>
   rw[hc]at hcon
   cases hcon
   subst hgv
   subst hS0
   exact⟨ht,hsz,hfit,xs,hx,(fun _ _ h=>by cases h),U,T,fun i r j c _ h1 h2=>⟨hU i r j c h1 h2,(C0.own kf).2 (hr i r j c h1 h2)⟩,fun i j b hb=>⟨fun _ _ h=>(by cases h),hT i j b hb⟩,hd1,hd2,hS⟩
  | _=>cases hc
theorem B9.aX {w:World}{Z:Av}{x:D}{v:Value}{S:Nat→Prop}(r:B9 w x v S):(∀b o,S b→¬Z b o)→Aj w Z x v:=by
 induction r with
 | int k n=>exact fun _=>.int k n
 | bool b=>exact fun _=>.bool b
 | str s=>exact fun _=>.str s
 | nil=>exact fun _=>.nil
 | con k ag sz rows x v xs U T S hcon hsz hfit hx hU hr hT hd1 hd2 hS ih=>
  intro hz
  cases x with
  | box cs=>exact .box cs v hx.Bw
  | map sz rows=>exact .map sz rows v hx.Bw
  | list ag' sz' rows'=>
   cases hcon
   obtain⟨e,hx⟩:=hx
   rcases hx.2 with⟨hv,hn⟩ | ⟨q,cap,cur,hv,hg,hh,hnc,hcm,hcs,htake⟩
   ·have:rows=[]:=List.eq_nil_of_length_eq_zero hn
    subst this
    rw[hv]
    exact .list ag sz [] none 0 0 0 (fun _ _=>undef) (Nat.le_refl _) (Nat.zero_le _) (by simp) (by simp) (by simp) (by simp)
   ·rw[hv]
    have hq:S q:=(hS q).2 (.inl (by rw[hv];rfl))
    refine .list ag sz rows (some ⟨q,0,none⟩) cap q 0 U hnc hcm hfit (fun _=>rfl) (fun i r j c h1 h2=>⟨?_,hz q _ hq⟩) (fun i r j c h1 h2=>ih i r j c h1 h2 fun b o hb=>hz b o ((hS b).2 (.inr ⟨i,j,hb⟩)))
    have h3:=hx.cells (g:=q) (by rw[hv];rfl) _ _ (hU i r j c h1 h2)
    have e1:(⟨q,0,none⟩:Addr).add (i*sz+j)=⟨q,0+(i*sz+j),none⟩:=by unfold Addr.add;split<;>simp_all
    rw[e1]at h3
    exact h3
  | _=>simp[D.con]at hcon
theorem Holds.block {w:World}{k:Kd}{sz:Nat}{v:Value}{n:Nat}{xs:List Value}(h:Holds w k sz v n xs) (hk:k.isM=false) (hn:0<n):
  ∃b c e,blk v=some b∧w.heap[b]?=some (.cells c e (0,0))∧n*sz≤c.size∧c.toList.take (n*sz)=xs∧∀(c':Array Value),c'.size=c.size→Holds (w.setRow b c') k sz v n (c'.toList.take (n*sz)):=by
 cases k with
 | map=>cases hk
 | fmap _=>cases hk
 | row=>
  obtain⟨e,h1,h2⟩:=h
  rcases h2 with⟨_,h2⟩ | ⟨q,cap,cur,hv,hg,hh,hnc,hcm,hcs,htake⟩
  ·omega
  ·have hle:n*sz≤cur.size:=by rw[hcs];exact Nat.mul_le_mul_right _ hnc
   refine⟨q,cur,e,by rw[hv];rfl,hh,hle,htake,fun c' hc'=>⟨e,?_,.inr ⟨q,cap,c',hv,hg,setRow_heap w q cur c' e _ hh,hnc,hcm,by rw[hc'];exact hcs,rfl⟩⟩⟩
   simp;omega
 | flat=>
  obtain⟨e,h1,h2⟩:=h
  rcases h2 with⟨_,h2⟩ | ⟨q,cap,cur,hv,hg,hh,hnc,hcm,hcs,htake⟩
  ·omega
  ·have hle:n*sz≤cur.size:=by rw[hcs];exact Nat.mul_le_mul_right _ hnc
   refine⟨q,cur,e,by rw[hv];rfl,hh,hle,htake,fun c' hc'=>⟨e,?_,.inr ⟨q,cap,c',hv,hg,setRow_heap w q cur c' e _ hh,hnc,hcm,by rw[hc'];exact hcs,rfl⟩⟩⟩
   simp;omega
 | box=>
  obtain⟨rfl,b,c,e,hv,hh,hc,hs⟩:=h
  refine⟨b,c,e,by rw[hv];rfl,hh,by omega,by rw[←hc,List.take_of_length_le];simp;omega,fun c' hc'=>⟨rfl,b,c',e,hv,setRow_heap w b c c' e _ hh,?_,by omega⟩⟩
  rw[List.take_of_length_le];simp;omega
theorem Holds.cell {w:World}{k:Kd}{sz:Nat}{v:Value}{n:Nat}{xs:List Value}(h:Holds w k sz v n xs) (hk:k.isM=false) {b:Nat}(hb:blk v=some b) {i:Nat}{u:Value}(hi:xs[i]?=some u):w.cell? ⟨b,i,none⟩=some u:=by
 have hlt:=(List.getElem?_eq_some_iff.1 hi).1
 have hl:=h.len
 have hn:0<n:=by
  rcases Nat.eq_zero_or_pos n with h0 | h0
  ·rw[h0,Nat.zero_mul]at hl;omega
  ·exact h0
 obtain⟨b',c,e,h1,h2,h3,h4,_⟩:=h.block hk hn
 rw[hb]at h1
 cases h1
 rw[←h4,List.getElem?_take]at hi
 split at hi
 ·simpa [World.cell?,h2] using hi
 ·cases hi
end Go.AM
namespace Go.AM
open Go Go.RowKit
def Dr (fresh:Nat):Nat→List D→List CV
 | _,[]=>[]
 | c,d::ds=>(match d with
  | .list _ _ _=>.ow (.loc (fresh+c))
  | .box _=>.ow (.loc (fresh+c))
  | .map _ _=>.ow (.loc (fresh+c))
  | .nil=>.nilp
  | d=>.d d)::Dr fresh (c+1) ds
def Dx (fresh:Nat):Nat→List D→List (Id×AQ)
 | _,[]=>[]
 | c,d::ds=>match d with
  | .list ag sz rows=>(.loc (fresh+c),.tree .row ag sz rows none)::Dx fresh (c+1) ds
  | .box cs=>(.loc (fresh+c),.tree .box true cs.length [.agg cs] none)::Dx fresh (c+1) ds
  | .map sz rows=>(.loc (fresh+c),.tree .map true sz rows none)::Dx fresh (c+1) ds
  | _=>Dx fresh (c+1) ds
def Nl (f:CV→(D→List Id→Prop)→Prop):List CV→(List D→List Id→Prop)→Prop
 | [],K=>K [] []
 | c::r,K=>f c fun d is=>Nl f r fun ds js=>K (d::ds) (is++js)
def Hz (h:Heap):Nat→CV→(D→List Id→Prop)→Prop
 | 0,_,_=>False
 | n+1,c,K=>match c with
  | .d d=>(match EA d with
   | true=>False
   | false=>K d [])
  | .nilp=>K .nil []
  | .nils ag sz=>(match Nat.blt 0 sz with
   | true=>K (.list ag sz []) []
   | false=>False)
  | .ow j=>(match h j with
   | some (.tree k ag sz rows none)=>(match IL k ag sz rows with
    | some x=>K x [j]
    | none=>False)
   | _=>False)
  | .ptr j o=>(match o with
   | 0=>(match h j with
    | some (.cells (c::cs))=>Nl (Hz h n) (c::cs) fun ds is=>K (.box ds) (j::is)
    | _=>False)
   | _=>False)
  | _=>False
def Nn (h:Heap) (cs:List CV) (K:List D→List Id→Prop):Prop:=Nl (Hz h 3) cs K
def Mk (i:Id):List Id→Bool
 | []=>false
 | j::l=>match Id.beq i j with
  | true=>true
  | false=>Mk i l
def nodupB:List Id→Bool
 | []=>true
 | i::l=>match Mk i l with
  | true=>false
  | false=>nodupB l
theorem IQ {i:Id}:∀{l:List Id},Mk i l=true↔i∈l
 | []=>by simp[Mk]
 | j::l=>by
  unfold Mk
  cases hb:Id.beq i j with
  | true=>simp[Id.beq_iff.1 hb]
  | false=>simp[IQ (l:=l),Id.beq_false.1 hb]
theorem DA:∀{l:List Id},nodupB l=true↔l.Nodup
 | []=>by simp[nodupB]
 | i::l=>by
  unfold nodupB
  cases hb:Mk i l with
  | true=>simp[IQ.1 hb]
  | false=>
   have:i∉l:=fun h=>by rw[IQ.2 h]at hb;cases hb
   simp[this,DA (l:=l)]
def BO:List Id→List (Id×AQ)
 | []=>[]
 | i::l=>(i,.gone)::BO l
inductive Bj (h:Heap):CV→D→List Id→Prop where
 | d (d:D) (hd:d.con=none):Bj h (.d d) d []
 | nilp:Bj h .nilp .nil []
 | nils (ag:Bool) (sz:Nat) (hsz:0<sz):Bj h (.nils ag sz) (.list ag sz []) []
 | ow (j:Id) (k:Kd) (ag:Bool) (sz:Nat) (rows:List D) (x:D) (hj:h j=some (.tree k ag sz rows none)) (hx:IL k ag sz rows=some x):Bj h (.ow j) x [j]
 | ptr (j:Id) (cs:List CV) (ds:List D) (iss:List (List Id)) (hj:h j=some (.cells cs)) (h0:0<cs.length) (h1:ds.length=cs.length) (h2:iss.length=cs.length)
   (hr:∀(q:Nat) c d is,cs[q]?=some c→ds[q]?=some d→iss[q]?=some is→Bj h c d is):Bj h (.ptr j 0) (.box ds) (j::iss.flatten)
theorem Jo {h:Heap}{f:CV→(D→List Id→Prop)→Prop}(hf:∀c K,f c K→∃d is,K d is∧Bj h c d is):∀{cs:List CV}{K:List D→List Id→Prop},Nl f cs K→
  ∃(ds:List D) (iss:List (List Id)),K ds iss.flatten∧ds.length=cs.length∧iss.length=cs.length∧∀(q:Nat) c d is,cs[q]?=some c→ds[q]?=some d→iss[q]?=some is→Bj h c d is
 | [],K,hk=>⟨[],[],hk,rfl,rfl,by simp⟩
 | c::r,K,hk=>by
  obtain⟨d,is,hk,hc⟩:=hf _ _ hk
  obtain⟨ds,iss,h1,h2,h3,h4⟩:=Jo hf hk
  refine⟨d::ds,is::iss,by simpa using h1,by simp[h2],by simp[h3],fun q c' d' is' g1 g2 g3=>?_⟩
  match q with
  | 0=>simp at g1 g2 g3;subst g1;subst g2;subst g3;exact hc
  | q+1=>simp at g1 g2 g3;exact h4 q c' d' is' g1 g2 g3
theorem M7 {h:Heap}:∀(n:Nat) (c:CV) (K:D→List Id→Prop),Hz h n c K→∃d is,K d is∧Bj h c d is
 | 0,_,_,hk=>hk.elim
 | n+1,c,K,hk=>by
  cases c with
  | d d=>
   unfold Hz at hk
   cases hl:EA d with
   | true=>simp only[hl]at hk
   | false=>simp only[hl]at hk;exact⟨d,[],hk,.d d (J7 hl)⟩
  | nilp=>exact⟨_,_,hk,.nilp⟩
  | nils ag sz=>
   simp only[Hz]at hk
   split at hk
   ·rename_i hb
    exact⟨_,_,hk,.nils ag sz (by simp[Nat.blt]at hb;omega)⟩
   ·exact hk.elim
  | ow j=>
   simp only[Hz]at hk
   split at hk
   ·rename_i k ag sz rows hj
    split at hk
    ·rename_i x hx
     exact⟨_,_,hk,.ow j k ag sz rows x hj hx⟩
    ·exact hk.elim
   ·exact hk.elim
  | ptr j o=>
   simp only[Hz]at hk
   split at hk
   ·split at hk
    ·rename_i c cs hj
     obtain⟨ds,iss,h1,h2,h3,h4⟩:=Jo (fun c K=>M7 n c K) hk
     exact⟨_,_,h1,.ptr j (c::cs) ds iss hj (by simp) h2 h3 h4⟩
    ·exact hk.elim
   ·exact hk.elim
  | _=>exact hk.elim
theorem G8 {h:Heap}{cs:List CV}{K:List D→List Id→Prop}(hk:Nn h cs K):
  ∃(ds:List D) (iss:List (List Id)),K ds iss.flatten∧ds.length=cs.length∧iss.length=cs.length∧∀(q:Nat) c d is,cs[q]?=some c→ds[q]?=some d→iss[q]?=some is→Bj h c d is:=
 Jo (fun c K=>M7 3 c K) hk
def Cd:AQ→Prop
 | .tree _ _ _ _ none=>True
 | .cells _=>True
 | .part ..=>True
 | _=>False
theorem Cd.zone {gv:Value}{ob:AQ}{b o:Nat}(h:Cd ob) (hb:Bi gv b):Bg gv ob b o:=by cases ob<;>first | exact hb | exact h.elim
theorem Cd.G4 {gv:Value}{ob:AQ}{b:Nat}(h:Cd ob) (hb:Bi gv b):ET gv ob b:=by cases ob<;>first | exact hb | exact h.elim
theorem Cd.aY {w:World}{Z:Av}{g:Ac}{h':Heap}{gv:Value}{ob:AQ}(h:Cd ob) (r:Bd w Z g h' ob gv):¬GB gv:=by
 cases ob with
 | tree=>exact fun hs=>Dm hs r.1
 | part=>exact fun hs=>Dm hs r.1
 | cells=>obtain⟨b,c,e,hv,_⟩:=r;rw[hv];exact fun h=>h
 | _=>exact h.elim
theorem Bj.whole {h:Heap}{c:CV}{d:D}{is:List Id}(q:Bj h c d is):∀i∈is,∃ob,h i=some ob∧Cd ob:=by
 induction q with
 | d | nilp | nils=>simp
 | ow j k ag sz rows x hj hx=>
  intro i hi
  obtain rfl:i=j:=by simpa using hi
  exact⟨_,hj,trivial⟩
 | ptr j cs ds iss hj h0 h1 h2 hr ih=>
  intro i hi
  rcases List.mem_cons.1 hi with rfl | hi
  ·exact⟨_,hj,trivial⟩
  ·obtain⟨is,h3,h4⟩:=List.mem_flatten.1 hi
   obtain⟨q,hq⟩:=List.mem_iff_getElem?.1 h3
   have hlt:=(List.getElem?_eq_some_iff.1 hq).1
   exact ih q cs[q] ds[q] is (by simp) (by simp) hq i h4
theorem LA {α:Type}{iss:List (List α)}(hn:iss.flatten.Nodup) {q q':Nat}{l l':List α}{x:α}(h:iss[q]?=some l) (h':iss[q']?=some l') (hx:x∈l) (hx':x∈l'):q=q':=by
 induction iss generalizing q q' with
 | nil=>simp at h
 | cons a iss ih=>
  rw[List.flatten_cons,List.nodup_append]at hn
  obtain⟨_,hn2,hn3⟩:=hn
  match q,q' with
  | 0,0=>rfl
  | 0,q'+1=>
   simp at h h'
   subst h
   exact absurd rfl (hn3 x hx x (List.mem_flatten.2 ⟨l',List.mem_of_getElem? h',hx'⟩))
  | q+1,0=>
   simp at h h'
   subst h'
   exact absurd rfl (hn3 x hx' x (List.mem_flatten.2 ⟨l,List.mem_of_getElem? h,hx⟩))
  | q+1,q'+1=>
   simp at h h'
   rw[ih hn2 h h']
theorem B9.congr {w:World}{x:D}{v:Value}{S S':Nat→Prop}(r:B9 w x v S) (h:∀b,S b↔S' b):B9 w x v S':=by
 have:S=S':=funext fun b=>propext (h b)
 rw[←this];exact r
theorem Bj.rel {w:World}{X:Av}{g:Ac}{h:Heap}(R:Db w X g h) {c:CV}{d:D}{is:List Id}(q:Bj h c d is):
  is.Nodup→∀{Z:Av} {u:Value},BM w Z g h c u→B9 w d u (fun b=>∃i∈is,Bi (g i) b):=by
 induction q with
 | d d hd=>
  rintro _ Z u ⟨hr,ha⟩
  have hs:∀b,(fun _:Nat=>False) b↔∃i∈([]:List Id),Bi (g i) b:=by simp
  cases hr with
  | int k n=>exact (B9.int k n).congr hs
  | bool b=>exact (B9.bool b).congr hs
  | str s=>exact (B9.str s).congr hs
  | nil=>exact B9.nil.congr hs
  | agg=>cases ha
  | _=>cases hd
 | nilp=>
  rintro _ Z u hr
  rw[show u=_ from hr]
  exact B9.nil.congr (by simp)
 | nils ag sz hsz=>
  rintro _ Z u hr
  rw[show u=_ from hr]
  exact .con .row ag sz [] _ _ [] (fun _ _=>undef) (fun _ _ _=>False) _ rfl hsz (by simp) ⟨0,World.ownsRow_nil w 0 0 sz⟩ (by simp) (by simp) (by simp) (by simp) (by simp) (by simp[blk])
 | ow j k ag sz rows x hj hx=>
  rintro _ Z u ⟨_,_,hr⟩
  rw[hr (by rw[hj];rfl)]
  exact ((IP hx).1 (R.objs j _ hj)).2.congr (by simp)
 | ptr j cs ds iss hj h0 h1 h2 hr ih=>
  rintro hn Z u ⟨⟨b,hb⟩,hu⟩
  obtain⟨b',cc,e,hg,hh,hs,hrel⟩:=R.objs j _ hj
  rw[hb]at hg
  obtain rfl:b=b':=by simpa using hg
  rw[hb]at hu
  have hu:u= .pointer (some ⟨b,0,none⟩):=hu
  subst hu
  obtain⟨hnj,hnf⟩:=List.nodup_cons.1 hn
  have hz:∀(q:Nat) d,ds[q]?=some d→∃is v,iss[q]?=some is∧cc[q]?=some v∧B9 w d v (fun b=>∃i∈is,Bi (g i) b):=by
   intro q d hd
   have hq:=(List.getElem?_eq_some_iff.1 hd).1
   have p3:iss[q]?=some iss[q]:=by simp
   refine⟨iss[q],cc[q],p3,by simp,?_⟩
   exact ih q cs[q] _ _ (by simp) hd p3 ((List.sublist_flatten_of_mem (List.mem_of_getElem? p3)).nodup hnf) (hrel q cs[q] cc[q] (by simp) (by simp))
  have hob:∀x∈iss.flatten,∃ob,h x=some ob∧Cd ob:=fun x hx=>Bj.whole (.ptr j cs ds iss hj h0 h1 h2 hr) x (List.mem_cons_of_mem _ hx)
  have apart:∀x∈iss.flatten,∀b',Bi (g x) b'→b'≠b:=by
   rintro x hx b' hb' rfl
   obtain⟨ob,o1,o2⟩:=hob x hx
   have:=R.sep x j ob _ b' o1 hj (o2.G4 hb') (show Bi (g j) b' from by rw[hb];exact .inl rfl)
   exact hnj (this▸hx)
  have memf:∀{q:Nat} {is:List Id} {x:Id},iss[q]?=some is→x∈is→x∈iss.flatten:=fun hq hx=>List.mem_flatten.2 ⟨_,List.mem_of_getElem? hq,hx⟩
  refine .con .box true ds.length [.agg ds] (.box ds) _ cc.toList (fun _ q=>cc.getD q undef) (fun i q b=>i=0∧∃is,iss[q]?=some is∧∃x∈is,Bi (g x) b) _ rfl (by omega) ?_ ?_ ?_ ?_ ?_ ?_ ?_ ?_
  ·intro r hr'
   obtain rfl:r= .agg ds:=by simpa using hr'
   refine⟨rfl,rfl,fun c hc=>?_⟩
   obtain⟨q,hq⟩:=List.mem_iff_getElem?.1 hc
   obtain⟨_,_,_,_,ho⟩:=hz q c hq
   exact ho.isAgg
  ·exact⟨rfl,b,cc,e,rfl,hh,rfl,by omega⟩
  ·intro i r q c hi hc
   match i with
   | 0=>
    simp at hi
    subst hi
    obtain⟨_,v,_,hv,_⟩:=hz q c hc
    simp[hv]
   | i+1=>simp at hi
  ·intro i r q c hi hc
   match i with
   | 0=>
    simp at hi
    subst hi
    obtain⟨is,v,his,hv,ho⟩:=hz q c hc
    have e1:cc.getD q undef=v:=by simp[hv]
    rw[e1]
    exact ho.congr fun b'=>⟨fun hx=>⟨rfl,is,his,hx⟩,fun⟨_,is',his',hx⟩=>by rw[his]at his';cases his';exact hx⟩
   | i+1=>simp at hi
  ·rintro i q b' ⟨rfl,is,his,_⟩
   have hlt:=(List.getElem?_eq_some_iff.1 his).1
   exact⟨.agg ds,ds[q],rfl,by simp[D.cells]⟩
  ·rintro i q b' ⟨_,is,his,x,hx,hb'⟩ he
   simp[blk]at he
   exact apart x (memf his hx) b' hb' he.symm
  ·rintro i q i' q' b' ⟨rfl,is,his,x,hx,hb'⟩ ⟨rfl,is',his',x',hx',hb''⟩
   obtain⟨ob,o1,o2⟩:=hob x (memf his hx)
   obtain⟨ob',o1',o2'⟩:=hob x' (memf his' hx')
   have:=R.sep x x' ob ob' b' o1 o1' (o2.G4 hb') (o2'.G4 hb'')
   subst this
   exact⟨rfl,LA hnf his his' hx hx'⟩
  ·intro b'
   constructor
   ·rintro⟨x,hx,hb'⟩
    rcases List.mem_cons.1 hx with rfl | hx
    ·rw[hb]at hb'
     exact .inl (by rw[hb'.ptr];rfl)
    ·obtain⟨is,h3,h4⟩:=List.mem_flatten.1 hx
     obtain⟨q,hq⟩:=List.mem_iff_getElem?.1 h3
     exact .inr ⟨0,q,rfl,is,hq,x,h4,hb'⟩
   ·rintro (hb' | ⟨_,q,_,is,his,x,hx,hb'⟩)
    ·simp[blk]at hb'
     exact⟨j,by simp,by rw[hb,←hb'];exact .inl rfl⟩
    ·exact⟨x,List.mem_cons_of_mem _ (memf his hx),hb'⟩
end Go.AM
namespace Go.AM
open Go Go.RowKit
section
variable {C:Cx}{F:Nat→Prop}{s:Af}{h:Heap}{g:Ac}{a:Act}{w:World}
theorem Jp {l:List Id}:∀{h:Heap}{i:Id},BP h (BO l) i=if i∈l then some .gone else h i:=by
 induction l with
 | nil=>intro h i;simp[BO,BP]
 | cons j l ih=>
  intro h i
  show BP (AX h j .gone) (BO l) i=_
  rw[ih]
  by_cases h1:i∈l
  ·simp[h1]
  ·by_cases h2:i=j
   ·simp[AX,h2]
   ·simp[AX,h1,h2]
theorem Ap.Jg {h':Heap}{g':Ac}{F':Nat→Prop}(R:Ap C F s h g a w) (T:Id→Prop)
  (hsame:∀i,¬T i→h' i=h i∧g' i=g i)
  (hT:∀i,T i→g' i=g i∨(isTu (g i)∧isTu (g' i)∧gval (g' i)=gval (g i))∨g i=undef)
  (hlv:∀i,T i→isTu (g i)→isLive (h' i)=true→isLive (h i)=true)
  (hnew:∀i ob,T i→h' i=some ob→(∃k ag sz rows foc,ob= .tree k ag sz rows foc)∨ob= .gone)
  (hobj:∀i o,T i→h' i=some o→(∀{x:CV} {v:Value},BM w (BN (zone g h) C.X) g h x v→BM w (BN (zone g' h') C.X) g' h' x v)→
   (∀{x:D} {v:Value},Aj w (BN (zone g h) C.X) x v→Aj w (BN (zone g' h') C.X) x v)→Bd w (BN (zone g' h') C.X) g' h' o (g' i))
  (hblk:∀i ob b,T i→h' i=some ob→ET (g' i) ob b→∃j o0,T j∧h j=some o0∧(∀o,Bg (g j) o0 b o))
  (hsep:∀i j oi oj b,T i→T j→h' i=some oi→h' j=some oj→ET (g' i) oi b→ET (g' j) oj b→i=j)
  (hext:∀j,T (.ext j)→Ce (g (.ext j)) (g' (.ext j)))
  (hfree:∀n,F' n→g' (.loc n)=undef∧h' (.loc n)=none):Ap C F' s h' g' a w:=by
 have hz:∀b o,BN (zone g' h') C.X b o→BN (zone g h) C.X b o:=by
  rintro b o (⟨i,ob,hi,h1⟩ | hx)
  ·by_cases ti:T i
   ·obtain⟨j,o0,_,hj,hb⟩:=hblk i ob b ti hi h1.G4
    exact .inl ⟨j,_,hj,hb o⟩
   ·rw[(hsame i ti).1]at hi
    rw[(hsame i ti).2]at h1
    exact .inl ⟨i,ob,hi,h1⟩
  ·exact .inr hx
 have keep:∀i,¬isTu (g i)→g i≠undef→g' i=g i:=fun i h1 h2=>by
  by_cases ti:T i
  ·rcases hT i ti with h | h | h
   ·exact h
   ·exact absurd h.1 h1
   ·exact absurd h h2
  ·exact (hsame i ti).2
 have E:IM w (BN (zone g h) C.X) g h w (BN (zone g' h') C.X) g' h':=by
  refine⟨fun b o u hu hn=>⟨hu,fun hy=>hn (hz b o hy)⟩,fun i b hb=>?_,fun i q hq=>?_,fun i hi=>?_,fun i n sz e hi hk=>?_,fun i hi=>?_,fun i hi hl=>?_⟩
  ·exact keep i (fun h=>by rw[hb]at h;obtain⟨_,_,h,_⟩:=h;cases h) (by rw[hb];simp[undef])
  ·exact keep i (fun h=>by rw[hq]at h;obtain⟨_,_,h,_⟩:=h;cases h) (by rw[hq];simp[undef])
  ·rw[keep i (Dm hi) (fun h=>by rw[h]at hi;exact hi)];exact hi
  ·have e1:=keep i (Dm hi) (fun h=>by rw[h]at hi;exact hi)
   by_cases ti:T i
   ·rcases hnew i _ ti hk with⟨_,_,_,_,_,h⟩ | h<;>cases h
   ·rw[(hsame i ti).1]at hk
    exact⟨n,Nat.le_refl _,hk,fun _=>e1⟩
  ·by_cases ti:T i
   ·rcases hT i ti with h | h | h
    ·rw[h];exact hi
    ·exact h.2.1
    ·rw[h]at hi;exact (Be hi).elim
   ·rw[(hsame i ti).2];exact hi
  ·by_cases ti:T i
   ·refine⟨hlv i ti hi hl,?_⟩
    rcases hT i ti with h | h | h
    ·rw[h]
    ·exact h.2.2
    ·rw[h]at hi;exact (Be hi).elim
   ·rw[(hsame i ti).1]at hl
    exact⟨hl,by rw[(hsame i ti).2]⟩
 refine R.step T E ⟨rfl,rfl,rfl,Nat.le_refl _,fun _ _ _=>rfl,fun _ _ _ hu _=>hu⟩ hsame (fun _ _ _ _ _ _=>rfl) (fun i o ti ho=>hobj i o ti ho E.KY E.G5) (fun i ob b o ti hi h1=>?_) hsep hext hfree
 obtain⟨j,o0,tj,hj,hb⟩:=hblk i ob b ti hi h1.G4
 exact .inl ⟨j,_,tj,hj,hb o⟩
theorem Ap.freeze (R:Ap C F s h g a w) {i:Id}{k:Kd}{ag:Bool}{sz:Nat}{rows:List D}(hi:h i=some (.tree k ag sz rows none)) {x:D}(hx:IL k ag sz rows=some x):
  Ap C F s (AX h i .gone) g a w∧Aj w (BN (zone g (AX h i .gone)) C.X) x (gval (g i)):=by
 have hob:=R.heap.objs i _ hi
 have hX:∀b o,Bi (g i) b→¬BN (zone g (AX h i .gone)) C.X b o:=by
  rintro b o hb (⟨j,ob,hj,h1⟩ | hx)
  ·by_cases hji:j=i
   ·subst hji
    simp[AX]at hj
    subst hj
    exact h1
   ·simp only[AX,if_neg hji]at hj
    exact hji (R.heap.sep j i ob _ b hj hi h1.G4 hb)
  ·exact R.heap.apart i _ b o hi hb hx
 refine⟨R.Jg (fun j=>j=i) (fun j hj=>by simp[AX,hj]) ?_ ?_ ?_ ?_ ?_ ?_ ?_ ?_,?_⟩
 ·rintro j rfl
  exact .inl rfl
 ·rintro j rfl _ hl
  simp[AX,isLive]at hl
 ·rintro j ob rfl ho
  simp[AX]at ho
  exact .inr ho.symm
 ·rintro j o rfl ho _ _
  simp[AX]at ho
  subst ho
  trivial
 ·rintro j ob b rfl ho hb
  simp[AX]at ho
  subst ho
  exact hb.elim
 ·rintro j k _ _ _ rfl rfl _ _ _ _
  rfl
 ·intro j _
  exact .refl _
 ·intro n hn
  have:=R.free n hn
  have hne:Id.loc n≠i:=by rintro rfl;rw[this.2]at hi;cases hi
  exact⟨this.1,by simp[AX,hne,this.2]⟩
 ·exact ((IP hx).1 hob).2.aX hX
theorem J8 {ag:Bool}{ds:List D}(hag:∀d∈ds,d.isAgg=false) (h1:ag=false→ds.length=1):(rowOf ag ds).cells=ds∧(rowOf ag ds).isAgg=ag:=by
 cases ag with
 | true=>exact⟨rfl,rfl⟩
 | false=>
  match ds,h1 rfl with
  | [d],_=>
   have:=hag d (by simp)
   refine⟨?_,this⟩
   show d.cells=[d]
   cases d<;>first | rfl | simp[D.isAgg]at this
theorem Ap.Um (R:Ap C F s h g a w) {i:Id}{kd:Kd}{ag:Bool}{sz k:Nat}{rows:List D}{cs:List CV}(hi:h i=some (.tree kd ag sz rows (some (k,cs)))) (hkd:kd.Jf=false)
  {ds:List D} {iss:List (List Id)} (hds:ds.length=cs.length) (his:iss.length=cs.length) (hnd:iss.flatten.Nodup) (hag:ag=false→ds.length=1)
  (hc:∀(q:Nat) c d is,cs[q]?=some c→ds[q]?=some d→iss[q]?=some is→Bj h c d is) {rows':List D} (hrows:rows.set k (rowOf ag ds)=rows'):
  ∃g',Ap C F s (BP (AX h i (.tree kd ag sz rows' none)) (BO iss.flatten)) g' a w:=by
 obtain⟨ht,h0,hf,xs,hx,hfoc,U,T,h1,h2,h3,h4,h5⟩:=R.heap.objs i _ hi
 obtain⟨hk,hcs,hrel⟩:=hfoc k cs rfl
 have hat:∀(q:Nat),q<cs.length→∃c d is,cs[q]?=some c∧ds[q]?=some d∧iss[q]?=some is:=fun q hq=>
  ⟨cs[q],ds[q],iss[q],by simp,by simp,by simp⟩
 have memf:∀{q:Nat} {is:List Id} {x:Id},iss[q]?=some is→x∈is→x∈iss.flatten:=fun hq hx=>List.mem_flatten.2 ⟨_,List.mem_of_getElem? hq,hx⟩
 have hmem:∀x∈iss.flatten,(∃(q:Nat) (is:List Id),iss[q]?=some is∧x∈is)∧∃ob,h x=some ob∧Cd ob:=by
  intro x hx
  obtain⟨is,h6,h7⟩:=List.mem_flatten.1 hx
  obtain⟨q,hq⟩:=List.mem_iff_getElem?.1 h6
  have hlt:=(List.getElem?_eq_some_iff.1 hq).1
  obtain⟨c,d,is',e1,e2,e3⟩:=hat q (by omega)
  rw[hq]at e3
  cases e3
  exact⟨⟨q,is,hq,h7⟩,(hc q c d is e1 e2 hq).whole x h7⟩
 have hni:i∉iss.flatten:=by
  intro hm
  obtain⟨_,ob,o1,o2⟩:=hmem i hm
  rw[hi]at o1
  cases o1
  exact o2
 obtain⟨l1,hl1⟩:=Bi.fin (g i)
 obtain⟨l2,hl2⟩:=Bi.Qv (g:=g) iss.flatten
 obtain⟨gv,gt,gg,gb⟩:=Rv (gval (g i)) (l1++l2) (fun b=>Bi (g i) b∨∃j∈iss.flatten,Bi (g j) b) (fun b hb=>by
  rcases hb with hb | ⟨j,hj,hb⟩
  ·exact List.mem_append.2 (.inl (hl1 b hb))
  ·exact List.mem_append.2 (.inr (hl2 j hj b hb)))
 have hh:∀j,BP (AX h i (.tree kd ag sz rows' none)) (BO iss.flatten) j=if j∈iss.flatten then some .gone else if j=i then some (.tree kd ag sz rows' none)else h j:=fun j=>by
  rw[Jp];rfl
 have hlen:rows'.length=rows.length:=by rw[←hrows];simp
 have xlen:xs.length=rows.length*sz:=hx.len
 have xat:∀j,j<sz→∃u,xs[k*sz+j]?=some u:=by
  intro j hj
  have:k*sz+j<xs.length:=by
   have:=Nat.mul_le_mul_right sz (show k+1≤rows.length from hk)
   rw[Nat.add_mul]at this
   omega
  exact⟨_,List.getElem?_eq_getElem this⟩
 have hown:∀(q:Nat) d,ds[q]?=some d→∃is u,iss[q]?=some is∧xs[k*sz+q]?=some u∧B9 w d u (fun b=>∃x∈is,Bi (g x) b):=by
  intro q d hd
  have hq:q<cs.length:=by rw[←hds];exact (List.getElem?_eq_some_iff.1 hd).1
  obtain⟨c,d',is,e1,e2,e3⟩:=hat q hq
  rw[hd]at e2
  cases e2
  obtain⟨u,hu⟩:=xat q (by omega)
  exact⟨is,u,e3,hu,(hc q c d is e1 hd e3).rel R.heap ((List.sublist_flatten_of_mem (List.mem_of_getElem? e3)).nodup hnd) (hrel q c u e1 hu)⟩
 have hda:∀d∈ds,d.isAgg=false:=by
  intro d hd
  obtain⟨q,hq⟩:=List.mem_iff_getElem?.1 hd
  obtain⟨_,_,_,_,ho⟩:=hown q d hq
  exact ho.isAgg
 obtain⟨rc,ra⟩:=J8 hda hag
 have apart:∀x b,x∈iss.flatten→Bi (g x) b→¬Bi (g i) b:=by
  intro x b hx' hb hb'
  obtain⟨_,ob,o1,o2⟩:=hmem x hx'
  exact hni (R.heap.sep x i ob _ b o1 hi (o2.G4 hb) hb'▸hx')
 refine⟨Au g i gv,R.Jg (fun j=>j=i∨j∈iss.flatten) (fun j hj=>?_) ?_ ?_ ?_ ?_ ?_ ?_ ?_ ?_⟩
 ·simp only[not_or]at hj
  rw[hh,if_neg hj.2,if_neg hj.1]
  exact⟨rfl,if_neg hj.1⟩
 ·rintro j (rfl | hj)
  ·exact .inr (.inl ⟨ht,by simpa [Au] using gt,by simp[Au,gg]⟩)
  ·have hne:j≠i:=by rintro rfl;exact hni hj
   exact .inl (by simp[Au,hne])
 ·rintro j (rfl | hj) _ hl
  ·rw[hi];rfl
  ·rw[hh,if_pos hj]at hl
   cases hl
 ·rintro j ob (rfl | hj) ho
  ·rw[hh,if_neg hni,if_pos rfl]at ho
   cases ho
   exact .inl ⟨_,_,_,_,_,rfl⟩
  ·rw[hh,if_pos hj]at ho
   cases ho
   exact .inr rfl
 ·rintro j o (rfl | hj) ho EC ED
  ·rw[hh,if_neg hni,if_pos rfl]at ho
   cases ho
   have e1:Au g j gv j=gv:=by simp[Au]
   rw[e1]
   let T':Nat→Nat→Nat→Prop:=fun a q b=>if a=k then ∃is,iss[q]?=some is∧∃x∈is,Bi (g x) b else T a q b
   let U':Nat→Nat→Value:=fun a q=>if a=k then xs.getD (k*sz+q) undef else U a q
   have hTk:∀q b,T' k q b↔∃is,iss[q]?=some is∧∃x∈is,Bi (g x) b:=fun q b=>by simp[T']
   have hTo:∀a q,a≠k→T' a q=T a q:=fun a q ha=>by funext b;simp[T',ha]
   refine⟨gt,h0,fun r hr=>?_,xs,by rw[gg,hlen];exact hx,(fun _ _ h=>by cases h),U',T',fun a r q c _ hr hq=>?_,fun a q b hb=>⟨fun _ _ h=>(by cases h),?_⟩,fun a q b hb=>?_,fun a q a' q' b hb hb'=>?_,fun b=>?_⟩
   ·rw[←hrows]at hr
    rcases List.mem_or_eq_of_mem_set hr with hr | rfl
    ·exact hf r hr
    ·exact⟨ra,by rw[rc];omega,by rw[rc];exact hda⟩
   ·by_cases ha:a=k
    ·subst ha
     rw[←hrows,List.getElem?_set_self hk]at hr
     cases hr
     rw[rc]at hq
     obtain⟨is,u,e3,hu,ho⟩:=hown q c hq
     have hU':U' a q=u:=by simp[U',hu]
     rw[hU']
     refine⟨hu,(C0.own hkd).2 (ho.congr fun b=>?_)⟩
     rw[hTk]
     exact⟨fun hx=>⟨is,e3,hx⟩,fun⟨is',his',hx⟩=>by rw[e3]at his';cases his';exact hx⟩
    ·rw[←hrows,List.getElem?_set_ne (by omega)]at hr
     have hU':U' a q=U a q:=by simp[U',ha]
     rw[hU',hTo a q ha]
     exact⟨(h1 a r q c (fun k' cs' hk'=>by cases hk';exact ha) hr hq).1,(h1 a r q c (fun k' cs' hk'=>by cases hk';exact ha) hr hq).2.map ED id⟩
   ·by_cases ha:a=k
    ·subst ha
     obtain⟨is,hx',_⟩:=(hTk q b).1 hb
     have hlt:=(List.getElem?_eq_some_iff.1 hx').1
     exact⟨rowOf ag ds,ds[q],by rw[←hrows,List.getElem?_set_self hk],by rw[rc];simp⟩
    ·rw[hTo a q ha]at hb
     obtain⟨_,r,c,p1,p2⟩:=h2 a q b hb
     exact⟨r,c,by rw[←hrows,List.getElem?_set_ne (by omega)];exact p1,p2⟩
   ·rw[gg]
    by_cases ha:a=k
    ·subst ha
     obtain⟨is,hx',x,hx,hb⟩:=(hTk q b).1 hb
     exact fun he=>apart x b (memf hx' hx) hb ((h5 b).2 (.inl he))
    ·rw[hTo a q ha]at hb
     exact h3 a q b hb
   ·by_cases ha:a=k
    ·by_cases ha':a'=k
     ·subst ha ha'
      obtain⟨is,hx',x,hx,hb⟩:=(hTk q b).1 hb
      obtain⟨is',hx'',x',hxx,hb'⟩:=(hTk q' b).1 hb'
      obtain⟨_,ob,p1,p2⟩:=hmem x (memf hx' hx)
      obtain⟨_,ob',p3,p4⟩:=hmem x' (memf hx'' hxx)
      have:=R.heap.sep x x' _ _ b p1 p3 (p2.G4 hb) (p4.G4 hb')
      subst this
      exact⟨rfl,LA hnd hx' hx'' hx hxx⟩
     ·subst ha
      obtain⟨is,hx',x,hx,hb⟩:=(hTk q b).1 hb
      rw[hTo a' q' ha']at hb'
      exact absurd ((h5 b).2 (.inr ⟨a',q',hb'⟩)) (apart x b (memf hx' hx) hb)
    ·by_cases ha':a'=k
     ·subst ha'
      obtain⟨is,hx',x,hx,hb'⟩:=(hTk q' b).1 hb'
      rw[hTo a q ha]at hb
      exact absurd ((h5 b).2 (.inr ⟨a,q,hb⟩)) (apart x b (memf hx' hx) hb')
     ·rw[hTo a q ha]at hb
      rw[hTo a' q' ha']at hb'
      exact h4 a q a' q' b hb hb'
   ·rw[gb,gg]
    constructor
    ·rintro (hb | ⟨x,hx',hb⟩)
     ·rcases (h5 b).1 hb with hb | ⟨a,q,hb⟩
      ·exact .inl hb
      ·refine .inr ⟨a,q,?_⟩
       rw[hTo a q ((h2 a q b hb).1 k cs rfl)]
       exact hb
     ·obtain⟨⟨q,is,hq,hxi⟩,_⟩:=hmem x hx'
      exact .inr ⟨k,q,(hTk q b).2 ⟨is,hq,x,hxi,hb⟩⟩
    ·rintro (hb | ⟨a,q,hb⟩)
     ·exact .inl ((h5 b).2 (.inl hb))
     ·by_cases ha:a=k
      ·subst ha
       obtain⟨is,hx',x,hx,hb⟩:=(hTk q b).1 hb
       exact .inr ⟨x,memf hx' hx,hb⟩
      ·rw[hTo a q ha]at hb
       exact .inl ((h5 b).2 (.inr ⟨a,q,hb⟩))
  ·rw[hh,if_pos hj]at ho
   cases ho
   trivial
 ·rintro j ob b (rfl | hj) ho hb
  ·rw[hh,if_neg hni,if_pos rfl]at ho
   cases ho
   have hb:Bi gv b:=by simpa [ET,Au] using hb
   rcases (gb b).1 hb with hb | ⟨x,hx',hb⟩
   ·exact⟨j,_,.inl rfl,hi,fun _=>hb⟩
   ·obtain⟨_,ob,p1,p2⟩:=hmem x hx'
    exact⟨x,_,.inr hx',p1,fun o=>p2.zone hb⟩
  ·rw[hh,if_pos hj]at ho
   cases ho
   exact hb.elim
 ·rintro j j' oj oj' b (rfl | hj) (rfl | hj') ho ho' hb hb'
  ·rfl
  ·rw[hh,if_pos hj']at ho'
   cases ho'
   exact hb'.elim
  ·rw[hh,if_pos hj]at ho
   cases ho
   exact hb.elim
  ·rw[hh,if_pos hj]at ho
   cases ho
   exact hb.elim
 ·rintro j (hj | hj)
  ·subst hj
   exact .inr ⟨ht,by simpa [Au] using gt,by simp[Au,gg]⟩
  ·have hne:Id.ext j≠i:=by rintro rfl;exact hni hj
   simp[Au,hne,Ce.refl]
 ·intro n hn
  have h6:=R.free n hn
  have hne:Id.loc n≠i:=by rintro rfl;rw[h6.2]at hi;cases hi
  have hnm:Id.loc n∉iss.flatten:=by
   intro hm
   obtain⟨_,_,p1,_⟩:=hmem _ hm
   rw[h6.2]at p1
   cases p1
  rw[hh,if_neg hnm,if_neg hne]
  exact⟨by simp[Au,hne,h6.1],h6.2⟩
end
end Go.AM
namespace Go.AM
open Go Go.RowKit
theorem G9 {fresh:Nat}:∀{ds:List D}{c:Nat},(Dr fresh c ds).length=ds.length
 | [],c=>rfl
 | d::ds,c=>by simp[Dr,G9 (ds:=ds)]
theorem M8 {fresh:Nat}:∀{ds:List D}{c j:Nat}{d:D},ds[j]?=some d→
  (EA d=true∧(Dr fresh c ds)[j]?=some (.ow (.loc (fresh+(c+j)))))∨(d= .nil∧(Dr fresh c ds)[j]?=some .nilp)∨(EA d=false∧(Dr fresh c ds)[j]?=some (.d d))
 | [],c,j,d,h=>by simp at h
 | x::ds,c,0,d,h=>by
  simp at h
  subst h
  cases x<;>first | exact .inl ⟨rfl,rfl⟩ | exact .inr (.inl ⟨rfl,rfl⟩) | exact .inr (.inr ⟨rfl,rfl⟩)
 | x::ds,c,j+1,d,h=>by
  simp at h
  have:=M8 (fresh:=fresh) (c:=c+1) h
  rw[show c+1+j=c+(j+1)from by omega]at this
  simpa [Dr] using this
theorem QC {fresh c:Nat}{d:D}{ds:List D}{k:Kd}{ag:Bool}{sz:Nat}{rows:List D}(h:d.con=some (k,ag,sz,rows)):
  Dx fresh c (d::ds)=(.loc (fresh+c),.tree k ag sz rows none)::Dx fresh (c+1) ds:=by
 cases d<;>simp[D.con]at h
 all_goals
  obtain⟨rfl,rfl,rfl,rfl⟩:=h
  rfl
theorem QD {fresh c:Nat}{d:D}{ds:List D}(h:EA d=false):Dx fresh c (d::ds)=Dx fresh (c+1) ds:=by
 cases d<;>first | rfl | simp[EA]at h
theorem HA {fresh:Nat}:∀{ds:List D}{c:Nat}{h:Heap}{x:Id},
  (∃(j:Nat) (d:D) (k:Kd) (ag:Bool) (sz:Nat) (rows:List D),ds[j]?=some d∧d.con=some (k,ag,sz,rows)∧x= .loc (fresh+(c+j))∧BP h (Dx fresh c ds) x=some (.tree k ag sz rows none))∨
  ((∀(j:Nat) (d:D),ds[j]?=some d→EA d=true→x≠ .loc (fresh+(c+j)))∧BP h (Dx fresh c ds) x=h x)
 | [],c,h,x=>.inr ⟨by simp,rfl⟩
 | d::ds,c,h,x=>by
  cases hl:EA d with
  | false=>
   rw[QD hl]
   rcases HA (fresh:=fresh) (ds:=ds) (c:=c+1) (h:=h) (x:=x)with⟨j,d',k,ag,sz,rows,h1,h2,h3,h4⟩ | ⟨h1,h2⟩
   ·exact .inl ⟨j+1,d',k,ag,sz,rows,by simpa using h1,h2,by rw[h3];congr 1;omega,h4⟩
   ·refine .inr ⟨fun j d' hj hc=>?_,h2⟩
    match j with
    | 0=>simp at hj;subst hj;rw[hl]at hc;cases hc
    | j+1=>
     simp at hj
     have:=h1 j d' hj hc
     rw[show c+1+j=c+(j+1)from by omega]at this
     exact this
  | true=>
   obtain⟨k0,ag0,sz0,rows0,hcon⟩:=M6.1 hl
   rw[QC hcon]
   have e:BP h ((.loc (fresh+c),.tree k0 ag0 sz0 rows0 none)::Dx fresh (c+1) ds)=BP (AX h (.loc (fresh+c)) (.tree k0 ag0 sz0 rows0 none)) (Dx fresh (c+1) ds):=rfl
   rw[e]
   rcases HA (fresh:=fresh) (ds:=ds) (c:=c+1) (h:=AX h (.loc (fresh+c)) (.tree k0 ag0 sz0 rows0 none)) (x:=x)with⟨j,d',k,ag,sz,rows,h1,h2,h3,h4⟩ | ⟨h1,h2⟩
   ·exact .inl ⟨j+1,d',k,ag,sz,rows,by simpa using h1,h2,by rw[h3];congr 1;omega,h4⟩
   ·by_cases hx:x= .loc (fresh+c)
    ·exact .inl ⟨0,d,k0,ag0,sz0,rows0,rfl,hcon,by simpa using hx,by rw[h2,hx];simp[AX]⟩
    ·refine .inr ⟨fun j d' hj hc=>?_,by rw[h2];simp[AX,hx]⟩
     match j with
     | 0=>simpa using hx
     | j+1=>
      simp at hj
      have:=h1 j d' hj hc
      rw[show c+1+j=c+(j+1)from by omega]at this
      exact this
section
variable {C:Cx}{F:Nat→Prop}{s:Af}{h:Heap}{g:Ac}{a:Act}{w:World}
def ZK (fresh:Nat) (ds:List D) (x:Id) (j:Nat):Prop:=∃d,ds[j]?=some d∧EA d=true∧x= .loc (fresh+j)
theorem Q7 {fresh:Nat}{ds:List D}{x:Id}{j j':Nat}(h:ZK fresh ds x j) (h':ZK fresh ds x j'):j=j':=by
 obtain⟨_,_,_,h⟩:=h
 obtain⟨_,_,_,h'⟩:=h'
 rw[h]at h'
 simp at h'
 omega
theorem Ap.Yz (R:Ap C F s h g a w) {i:Id}{kd:Kd}(hkd:kd.Jf=false) {ag:Bool}{sz:Nat}{rows:List D}(hi:h i=some (.tree kd ag sz rows none)) {k:Nat}{r:D}(hr:rows[k]?=some r)
  {fresh:Nat} (hF:∀c,c<32→F (fresh+c)) (hn:r.cells.length≤32):
  ∃g',Ap C (fun n=>F n∧¬(fresh≤n∧n<fresh+32)) s (BP (AX h i (.tree kd ag sz rows (some (k,Dr fresh 0 r.cells)))) (Dx fresh 0 r.cells)) g' a w∧gval (g' i)=gval (g i):=by
 classical
 obtain⟨ht,h0,hf,xs,hx,_,U,T,h1,h2,h3,h4,h5⟩:=R.heap.objs i _ hi
 have h1:∀(i:Nat) r (j:Nat) c,rows[i]?=some r→r.cells[j]?=some c→xs[i*sz+j]?=some (U i j)∧B9 w c (U i j) (T i j):=fun i r j c p1 p2=>⟨(h1 i r j c (fun _ _ h=>by cases h) p1 p2).1,(C0.own hkd).1 (h1 i r j c (fun _ _ h=>by cases h) p1 p2).2⟩
 obtain⟨f1,f2,f3⟩:=hf r (List.mem_of_getElem? hr)
 obtain⟨l1,hl1⟩:=Bi.fin (g i)
 have gcs:∀j,∃gv,isTu gv∧gval gv=U k j∧∀b,Bi gv b↔T k j b:=fun j=>Rv (U k j) l1 (T k j) (fun b hb=>hl1 b ((h5 b).2 (.inr ⟨k,j,hb⟩)))
 let gc:Nat→Value:=fun j=>Classical.choose (gcs j)
 have hgc:∀j,isTu (gc j)∧gval (gc j)=U k j∧∀b,Bi (gc j) b↔T k j b:=fun j=>Classical.choose_spec (gcs j)
 obtain⟨gv,gt,gg,gb⟩:=Rv (gval (g i)) l1 (fun b=>blk (gval (g i))=some b∨∃i' j,i'≠k∧T i' j b) (fun b hb=>by
  rcases hb with hb | ⟨i',j,_,hb⟩
  ·exact hl1 b ((h5 b).2 (.inl hb))
  ·exact hl1 b ((h5 b).2 (.inr ⟨i',j,hb⟩)))
 let K:=ZK fresh r.cells
 let g':Ac:=fun x=>if x=i then gv else if hx:∃j,K x j then gc (Classical.choose hx)else g x
 have kfree:∀x j,K x j→g x=undef∧h x=none∧x≠i:=by
  rintro x j ⟨_,hj,_,rfl⟩
  have:=R.free (fresh+j) (hF j (by have:=(List.getElem?_eq_some_iff.1 hj).1;omega))
  exact⟨this.1,this.2,fun e=>by rw[e,hi]at this;cases this.2⟩
 have gi:g' i=gv:=if_pos rfl
 have gk:∀x j,K x j→g' x=gc j:=by
  intro x j hj
  show (if x=i then gv else if hx:∃j,K x j then gc (Classical.choose hx)else g x)=_
  rw[if_neg (kfree x j hj).2.2,dif_pos ⟨j,hj⟩]
  rw[Q7 (Classical.choose_spec (⟨j,hj⟩:∃j,K x j)) hj]
 have go:∀x,x≠i→(∀j,¬K x j)→g' x=g x:=by
  intro x h6 h7
  show (if x=i then gv else if hx:∃j,K x j then gc (Classical.choose hx)else g x)=_
  rw[if_neg h6,dif_neg (fun⟨j,hj⟩=>h7 j hj)]
 let h':=BP (AX h i (.tree kd ag sz rows (some (k,Dr fresh 0 r.cells)))) (Dx fresh 0 r.cells)
 have hk:∀x,(∃j d k' ag' sz' rows',K x j∧r.cells[j]?=some d∧d.con=some (k',ag',sz',rows')∧h' x=some (.tree k' ag' sz' rows' none))∨((∀j,¬K x j)∧h' x=AX h i (.tree kd ag sz rows (some (k,Dr fresh 0 r.cells))) x):=by
  intro x
  rcases HA (fresh:=fresh) (ds:=r.cells) (c:=0) (h:=AX h i (.tree kd ag sz rows (some (k,Dr fresh 0 r.cells)))) (x:=x)with⟨j,d,k',ag',sz',rows',p1,p2,p3,p4⟩ | ⟨p1,p2⟩
  ·rw[Nat.zero_add]at p3
   exact .inl ⟨j,d,k',ag',sz',rows',⟨d,p1,M6.2 ⟨_,_,_,_,p2⟩,p3⟩,p1,p2,p4⟩
  ·refine .inr ⟨?_,p2⟩
   rintro j ⟨d,q1,q2,q3⟩
   have:=p1 j d q1 q2
   rw[Nat.zero_add]at this
   exact this q3
 have hi':h' i=some (.tree kd ag sz rows (some (k,Dr fresh 0 r.cells))):=by
  rcases hk i with⟨j,_,_,_,_,_,p1,_⟩ | ⟨_,p2⟩
  ·exact absurd rfl (kfree i j p1).2.2
  ·rw[p2];simp[AX]
 have hkid:∀x j d,K x j→r.cells[j]?=some d→∃k' ag' sz' rows',d.con=some (k',ag',sz',rows')∧h' x=some (.tree k' ag' sz' rows' none):=by
  intro x j d p1 p2
  rcases hk x with⟨j',d',k',ag',sz',rows',q1,q2,q3,q4⟩ | ⟨q1,_⟩
  ·have:=Q7 p1 q1
   subst this
   rw[p2]at q2
   cases q2
   exact⟨_,_,_,_,q3,q4⟩
  ·exact absurd p1 (q1 j)
 have hoth:∀x,x≠i→(∀j,¬K x j)→h' x=h x:=by
  intro x p1 p2
  rcases hk x with⟨j,_,_,_,_,_,q1,_⟩ | ⟨_,q2⟩
  ·exact absurd q1 (p2 j)
  ·rw[q2];simp[AX,p1]
 have rk:∀j c,r.cells[j]?=some c→xs[k*sz+j]?=some (U k j)∧B9 w c (U k j) (T k j):=fun j c hc=>h1 k r j c hr hc
 refine⟨g',R.Jg (fun x=>x=i∨∃j,K x j) (fun x hx'=>?_) ?_ ?_ ?_ ?_ ?_ ?_ ?_ ?_,by rw[gi,gg]⟩
 ·simp only[not_or,not_exists]at hx'
  exact⟨hoth x hx'.1 hx'.2,go x hx'.1 hx'.2⟩
 ·rintro x (rfl | ⟨j,hj⟩)
  ·exact .inr (.inl ⟨ht,by rw[gi];exact gt,by rw[gi,gg]⟩)
  ·exact .inr (.inr (kfree x j hj).1)
 ·rintro x (rfl | ⟨j,hj⟩) hxt _
  ·rw[hi];rfl
  ·rw[(kfree x j hj).1]at hxt
   exact (Be hxt).elim
 ·rintro x ob (rfl | ⟨j,hj⟩) ho
  ·replace ho:=hi'.symm.trans ho
   cases ho
   exact .inl ⟨_,_,_,_,_,rfl⟩
  ·obtain⟨d,q1,q2,q3⟩:=hj
   obtain⟨_,_,_,_,_,q4⟩:=hkid x j d ⟨d,q1,q2,q3⟩ q1
   replace ho:=q4.symm.trans ho
   cases ho
   exact .inl ⟨_,_,_,_,_,rfl⟩
 ·rintro x o (rfl | ⟨j,hj⟩) ho EC ED
  ·replace ho:=hi'.symm.trans ho
   cases ho
   rw[gi]
   let T':Nat→Nat→Nat→Prop:=fun a q b=>a≠k∧T a q b
   have hT':∀a q,a≠k→T' a q=T a q:=fun a q ha=>by funext b;simp[T',ha]
   refine⟨gt,h0,hf,xs,by rw[gg];exact hx,fun k' cs' hk'=>?_,U,T',fun a y q c ha hy hq=>?_,fun a q b hb=>⟨fun k' cs' hk'=>?_,?_⟩,fun a q b hb=>by rw[gg];exact h3 a q b hb.2,fun a q a' q' b hb hb'=>h4 a q a' q' b hb.2 hb'.2,fun b=>?_⟩
   ·cases hk'
    refine⟨(List.getElem?_eq_some_iff.1 hr).1,by rw[G9];exact f2,fun j c u hj hu=>?_⟩
    have hlt:j<r.cells.length:=by rw[←G9 (fresh:=fresh) (c:=0)];exact (List.getElem?_eq_some_iff.1 hj).1
    obtain⟨p1,p2⟩:=rk j r.cells[j] (by simp)
    rw[p1]at hu
    cases hu
    have hd:r.cells[j]?=some r.cells[j]:=by simp
    generalize r.cells[j]=d at hd p2
    rcases M8 (fresh:=fresh) (c:=0) hd with⟨q1,q2⟩ | ⟨q1,q2⟩ | ⟨q1,q2⟩
    ·rw[hj]at q2
     cases q2
     have hK:K (.loc (fresh+j)) j:=⟨_,hd,q1,rfl⟩
     rw[Nat.zero_add]
     exact⟨p2.Bw,by rw[gk _ j hK];exact (hgc j).1,fun _=>by rw[gk _ j hK,(hgc j).2.1]⟩
    ·rw[hj]at q2
     cases q2
     subst q1
     generalize U k j=v at p2
     generalize T k j=t at p2
     cases p2 with
     | nil=>rfl
     | con _ _ _ _ _ _ _ _ _ _ hcon=>cases hcon
    ·rw[hj]at q2
     cases q2
     refine⟨?_,f3 d (List.mem_of_getElem? hd)⟩
     generalize U k j=v at p2
     generalize T k j=t at p2
     cases p2 with
     | int k n=>exact .int k n
     | bool b=>exact .bool b
     | str s=>exact .str s
     | nil=>exact .nil
     | con _ _ _ _ _ _ _ _ _ _ hcon=>rw[J7 q1]at hcon;cases hcon
   ·have ha:a≠k:=ha k _ rfl
    rw[hT' a q ha]
    exact⟨(h1 a y q c hy hq).1,(C0.own hkd).2 (h1 a y q c hy hq).2⟩
   ·cases hk'
    exact hb.1
   ·exact (h2 a q b hb.2).2
   ·rw[gb,gg]
  ·obtain⟨d,q1,q2,q3⟩:=hj
   have hK:K x j:=⟨d,q1,q2,q3⟩
   obtain⟨k',ag',sz',rows',hcon,q4⟩:=hkid x j d hK q1
   replace ho:=q4.symm.trans ho
   cases ho
   rw[gk x j hK]
   refine (IP (Oj.2 hcon)).2 ⟨(hgc j).1,?_⟩
   rw[(hgc j).2.1]
   exact (rk j _ q1).2.congr fun b=>((hgc j).2.2 b).symm
 ·rintro x ob b (rfl | ⟨j,hj⟩) ho hb
  ·replace ho:=hi'.symm.trans ho
   cases ho
   rw[gi]at hb
   have hb:Bi gv b:=hb
   refine⟨x,_,.inl rfl,hi,fun _=>(h5 b).2 ?_⟩
   rcases (gb b).1 hb with hb | ⟨a,q,_,hb⟩
   ·exact .inl hb
   ·exact .inr ⟨a,q,hb⟩
  ·have hb:=hb.blk
   rw[gk x j hj]at hb
   exact⟨i,_,.inl rfl,hi,fun _=>(h5 b).2 (.inr ⟨k,j,((hgc j).2.2 b).1 hb⟩)⟩
 ·rintro x y ox oy b (rfl | ⟨j,hj⟩) (rfl | ⟨j',hj'⟩) ho ho' hb hb'
  ·rfl
  ·have hb:=hb.blk
   have hb':=hb'.blk
   rw[gi]at hb
   rw[gk y j' hj']at hb'
   have hb':=((hgc j').2.2 b).1 hb'
   rcases (gb b).1 hb with hb | ⟨a,q,ha,hb⟩
   ·exact absurd hb (h3 k j' b hb')
   ·exact absurd (h4 a q k j' b hb hb').1 ha
  ·have hb:=hb.blk
   have hb':=hb'.blk
   rw[gi]at hb'
   rw[gk x j hj]at hb
   have hb:=((hgc j).2.2 b).1 hb
   rcases (gb b).1 hb' with hb' | ⟨a,q,ha,hb'⟩
   ·exact absurd hb' (h3 k j b hb)
   ·exact absurd (h4 a q k j b hb' hb).1 ha
  ·have hb:=hb.blk
   have hb':=hb'.blk
   rw[gk x j hj]at hb
   rw[gk y j' hj']at hb'
   have e3:=(h4 k j k j' b (((hgc j).2.2 b).1 hb) (((hgc j').2.2 b).1 hb')).2
   subst e3
   obtain⟨_,_,_,p⟩:=hj
   obtain⟨_,_,_,p'⟩:=hj'
   rw[p,p']
 ·rintro x (hx' | ⟨j,_,_,_,hx'⟩)
  ·subst hx'
   rw[gi]
   exact .inr ⟨ht,gt,gg⟩
  ·cases hx'
 ·rintro n ⟨hn1,hn2⟩
  have h6:=R.free n hn1
  have hne:Id.loc n≠i:=by rintro rfl;rw[h6.2]at hi;cases hi
  have hnk:∀j,¬K (.loc n) j:=by
   rintro j ⟨_,q1,_,q2⟩
   have:=(List.getElem?_eq_some_iff.1 q1).1
   simp at q2
   omega
  exact⟨(go _ hne hnk).trans h6.1,(hoth _ hne hnk).trans h6.2⟩
end
end Go.AM
namespace Go.AM
open Go Go.RowKit
section
variable {C:Cx}{F:Nat→Prop}{s:Af}{h h':Heap}{g:Ac}{a:Act}{w w':World}
theorem Ap.Rs (R:Ap C F s h g a w) {T0:List Id}(hT:∀i∈T0,∃ob,h i=some ob∧Cd ob) {n:Nat}(hf:F n)
  (hos:w'.os=w.os∧w'.tape=w.tape∧w'.output=w.output∧w.heap.size≤w'.heap.size)
  (hblk:∀b,b<w.heap.size→(∀i∈T0,¬Bi (g i) b)→w'.heap[b]?=w.heap[b]?)
  {kd:Kd} {ag:Bool} {sz:Nat} {out:List D} {v:Value} (P:Nat→Prop) (l:List Nat) (hl:∀b,P b→b∈l) (hP:∀b,P b→(∃i∈T0,Bi (g i) b)∨w.heap.size≤b) (hv:v.oneCell'=true)
  (hrel:∀(Z':Av) (g':Ac) (h':Heap) (gv:Value),isTu gv→gval gv=v→(∀b,Bi gv b↔P b)→(∀{x:D} {u:Value},Aj w (BN (zone g h) C.X) x u→Aj w' Z' x u)→Bd w' Z' g' h' (.tree kd ag sz out none) gv):
  ∃g',Ap C (fun k=>F k∧k≠n) s (AX (BP h (BO T0)) (.loc n) (.tree kd ag sz out none)) g' a w'∧
   BM w' (BN (zone g' (AX (BP h (BO T0)) (.loc n) (.tree kd ag sz out none))) C.X) g' (AX (BP h (BO T0)) (.loc n) (.tree kd ag sz out none)) (.ow (.loc n)) v:=by
 obtain⟨hgn,hhn⟩:=R.free n hf
 obtain⟨gv,gt,gg,gb⟩:=Rv v l P hl
 have hnT:Id.loc n∉T0:=by
  intro hm
  obtain⟨_,h1,_⟩:=hT _ hm
  rw[hhn]at h1
  cases h1
 let h':Heap:=AX (BP h (BO T0)) (.loc n) (.tree kd ag sz out none)
 let g':Ac:=Au g (.loc n) gv
 have hh:∀i,h' i=if i= .loc n then some (.tree kd ag sz out none)else if i∈T0 then some .gone else h i:=fun i=>by
  show (if i= .loc n then _ else BP h (BO T0) i)=_
  rw[Jp]
 have gn:g' (.loc n)=gv:=by simp[g',Au]
 have go:∀i,i≠ .loc n→g' i=g i:=fun i hi=>by simp[g',Au,hi]
 have tuT:∀i∈T0,¬GB (g i):=by
  intro i hi
  obtain⟨_,h1,h2⟩:=hT i hi
  exact h2.aY (R.heap.objs i _ h1)
 have zT:∀i∈T0,∀b o,Bi (g i) b→zone g h b o:=by
  intro i hi b o hb
  obtain⟨_,h1,h2⟩:=hT i hi
  exact⟨i,_,h1,h2.zone hb⟩
 have hcell:∀b o u,w.cell? ⟨b,o,none⟩=some u→¬zone g h b o→w'.cell? ⟨b,o,none⟩=some u:=by
  intro b o u hu hn
  exact (World.cell?_of_block (a:=⟨b,o,none⟩) (hblk b (World.block_lt_of_cell? w ⟨b,o,none⟩ hu) (fun i hi hb=>hn (zT i hi b o hb)))).trans hu
 have hz:∀b o,BN (zone g' h') C.X b o→BN (zone g h) C.X b o∨w.heap.size≤b:=by
  rintro b o (⟨i,ob,hi,h1⟩ | hx)
  ·rw[hh]at hi
   by_cases hin:i= .loc n
   ·rw[if_pos hin]at hi
    cases hi
    subst hin
    have h1:Bi (g' (.loc n)) b:=h1
    rw[gn]at h1
    rcases hP b ((gb b).1 h1)with⟨j,hj,hb⟩ | hb
    ·exact .inl (.inl (zT j hj b o hb))
    ·exact .inr hb
   ·rw[if_neg hin]at hi
    rw[go i hin]at h1
    by_cases hiT:i∈T0
    ·rw[if_pos hiT]at hi
     cases hi
     exact h1.elim
    ·rw[if_neg hiT]at hi
     exact .inl (.inl ⟨i,ob,hi,h1⟩)
  ·exact .inl (.inr hx)
 have nfree:∀{i:Id},g i≠undef→i≠ .loc n:=by
  rintro i hu rfl
  exact hu hgn
 have E:IM w (BN (zone g h) C.X) g h w' (BN (zone g' h') C.X) g' h':=by
  refine⟨fun b o u hu hn=>⟨hcell b o u hu (fun hy=>hn (.inl hy)),fun hy=>?_⟩,fun i b hb=>go i (nfree (by rw[hb];simp[undef])),fun i q hq=>go i (nfree (by rw[hq];simp[undef])),fun i hi=>?_,fun i k sz' e hi hk=>?_,fun i hi=>?_,fun i hi hlv=>?_⟩
  ·have:=World.block_lt_of_cell? w ⟨b,o,none⟩ hu
   simp at this
   rcases hz b o hy with h1 | h1
   ·exact hn h1
   ·omega
  ·rw[go i (nfree fun e=>by rw[e]at hi;exact hi)];exact hi
  ·have hin:i≠ .loc n:=nfree fun e=>by rw[e]at hi;exact hi
   rw[hh,if_neg hin]at hk
   have hiT:i∉T0:=fun hm=>tuT i hm hi
   rw[if_neg hiT]at hk
   exact⟨k,Nat.le_refl _,hk,fun _=>go i hin⟩
  ·rw[go i (nfree fun e=>Be (e▸hi))];exact hi
  ·have hin:i≠ .loc n:=nfree fun e=>Be (e▸hi)
   rw[hh,if_neg hin]at hlv
   by_cases hiT:i∈T0
   ·rw[if_pos hiT]at hlv
    cases hlv
   ·rw[if_neg hiT]at hlv
    exact⟨hlv,by rw[go i hin]⟩
 refine⟨g',R.step (F':=fun k=>F k∧k≠n) (fun i=>i= .loc n∨i∈T0) E ⟨hos.1,hos.2.1,hos.2.2.1,hos.2.2.2,fun b hb hn=>hblk b hb (fun i hi hbb=>hn 0 (zT i hi b 0 hbb)),hcell⟩ (fun i hi=>?_) (fun i o b hi ho hb=>?_) (fun i o ti ho=>?_) (fun i ob b o ti ho h1=>?_)
  (fun i j oi oj b ti tj ho ho' hb hb'=>?_) (fun j hj=>?_) (fun k hk=>?_),?_⟩
 ·simp only[not_or]at hi
  exact⟨by rw[show AX (BP h (BO T0)) (.loc n) (.tree kd ag sz out none) i=_ from hh i,if_neg hi.1,if_neg hi.2],go i hi.1⟩
 ·simp only[not_or]at hi
  refine hblk b ((R.heap.objs i o ho).lt hb) (fun j hj hbb=>?_)
  obtain⟨_,h1,h2⟩:=hT j hj
  exact hi.2 (R.heap.sep i j o _ b ho h1 hb (h2.G4 hbb)▸hj)
 ·replace ho:=(hh i).symm.trans ho
  by_cases hin:i= .loc n
  ·rw[if_pos hin]at ho
   cases ho
   subst hin
   rw[gn]
   exact hrel _ _ _ gv gt gg gb E.G5
  ·rw[if_neg hin]at ho
   rcases ti with ti | ti
   ·exact absurd ti hin
   ·rw[if_pos ti]at ho
    cases ho
    trivial
 ·replace ho:=(hh i).symm.trans ho
  by_cases hin:i= .loc n
  ·rw[if_pos hin]at ho
   cases ho
   subst hin
   have h1:Bi (g' (.loc n)) b:=h1
   rw[gn]at h1
   rcases hP b ((gb b).1 h1)with⟨j,hj,hb⟩ | hb
   ·obtain⟨_,h2,h3⟩:=hT j hj
    exact .inl ⟨j,_,.inr hj,h2,h3.zone hb⟩
   ·exact .inr hb
  ·rw[if_neg hin]at ho
   rcases ti with ti | ti
   ·exact absurd ti hin
   ·rw[if_pos ti]at ho
    cases ho
    exact h1.elim
 ·replace ho:=(hh i).symm.trans ho
  replace ho':=(hh j).symm.trans ho'
  by_cases hin:i= .loc n
  ·by_cases hjn:j= .loc n
   ·rw[hin,hjn]
   ·rw[if_neg hjn]at ho'
    rcases tj with tj | tj
    ·exact absurd tj hjn
    ·rw[if_pos tj]at ho'
     cases ho'
     exact hb'.elim
  ·rw[if_neg hin]at ho
   rcases ti with ti | ti
   ·exact absurd ti hin
   ·rw[if_pos ti]at ho
    cases ho
    exact hb.elim
 ·rw[go (.ext j) (by simp)]
  exact .refl _
 ·obtain⟨hk1,hk2⟩:=hk
  have h6:=R.free k hk1
  have hkT:Id.loc k∉T0:=by
   intro hm
   obtain⟨_,h1,_⟩:=hT _ hm
   rw[h6.2]at h1
   cases h1
  have hne:Id.loc k≠ .loc n:=by simp[hk2]
  exact⟨(go _ hne).trans h6.1,by rw[show AX (BP h (BO T0)) (.loc n) (.tree kd ag sz out none) (.loc k)=_ from hh _,if_neg hne,if_neg hkT];exact h6.2⟩
 ·exact⟨hv,by rw[gn];exact gt,fun _=>by rw[gn,gg]⟩
end
end Go.AM
namespace Go.AM
open Go Go.RowKit
def Np:Kd→Bool
 | .flat=>false
 | .fmap _=>false
 | _=>true
theorem J9 {k:Kd}:Np k=true↔k.Jf=false:=by cases k<;>simp[Np,Kd.Jf]
def H3 (h:Heap):List Id→(Heap→List Id→List (Id×AQ)→Prop)→Prop
 | [],K=>K h [] []
 | i::r,K=>match h i with
  | some (.tree kd ag sz rows (some (k,cs)))=>Bq (Np kd)<| Nn h cs fun ds is=>match nodupB is with
   | true=>match ag || Nat.beq ds.length 1 with
    | true=>∃rows',rows.set k (rowOf ag ds)=rows'∧H3 (BP (AX h i (.tree kd ag sz rows' none)) (BO is)) r fun h' rd wr=>K h' (i::(is++rd)) ((i,.tree kd ag sz rows' none)::(BO is++wr))
    | false=>False
   | false=>False
  | _=>False
theorem Ds {l l':List (Id×AQ)}:∀{h:Heap},BP h (l++l')=BP (BP h l) l':=by
 induction l with
 | nil=>intro h;rfl
 | cons x l ih=>intro h;exact ih
theorem Q8 {wr:List (Id×AQ)}:∀{h σh:Heap}{i:Id},σh i=h i→BP σh wr i=BP h wr i:=by
 induction wr with
 | nil=>intro h σh i e;exact e
 | cons x wr ih=>
  intro h σh i e
  refine ih ?_
  simp only[AX]
  split
  ·rfl
  ·exact e
theorem Bj.at {h σh:Heap}{c:CV}{d:D}{is:List Id}(q:Bj h c d is):(∀j∈is,σh j=h j)→Bj σh c d is:=by
 induction q with
 | d d hd=>exact fun _=>.d d hd
 | nilp=>exact fun _=>.nilp
 | nils ag sz hsz=>exact fun _=>.nils ag sz hsz
 | ow j k ag sz rows x hj hx=>exact fun he=>.ow j k ag sz rows x ((he j (by simp)).trans hj) hx
 | ptr j cs ds iss hj h0 h1 h2 hr ih=>
  intro he
  refine .ptr j cs ds iss ((he j (by simp)).trans hj) h0 h1 h2 fun q c d is e1 e2 e3=>ih q c d is e1 e2 e3 fun x hx=>he x (List.mem_cons_of_mem _ (List.mem_flatten.2 ⟨is,List.mem_of_getElem? e3,hx⟩))
theorem M9 {C:Cx}:∀{gs:List Id}{h:Heap}{K:Heap→List Id→List (Id×AQ)→Prop},H3 h gs K→
  ∃rd wr,K (BP h wr) rd wr∧∀F s σh a w,Rel C F s σh a w→(∀i∈rd,σh i=h i)→Rel C F s (BP σh wr) a w
 | [],h,K,hk=>⟨[],[],hk,fun F s σh a w R _=>R⟩
 | i::r,h,K,hk=>by
  unfold H3 at hk
  split at hk
  ·rename_i kd ag sz rows k cs hi
   obtain⟨hnf,hk⟩:=AR.1 hk
   obtain⟨ds,iss,hk,hdl,hol,hcl⟩:=G8 hk
   split at hk
   ·rename_i hnd
    split at hk
    ·rename_i hag
     obtain⟨rows',hrows,hk⟩:=hk
     obtain⟨rd,wr,hK,H⟩:=M9 (C:=C) hk
     refine⟨i::(iss.flatten++rd),(i,.tree kd ag sz rows' none)::(BO iss.flatten++wr),?_,?_⟩
     ·rw[show BP h ((i,.tree kd ag sz rows' none)::(BO iss.flatten++wr))=BP (BP (AX h i (.tree kd ag sz rows' none)) (BO iss.flatten)) wr from Ds]
      exact hK
     ·rintro F s σh a w ⟨g,R⟩ hrd
      have hσ:σh i=some (.tree kd ag sz rows (some (k,cs))):=(hrd i (by simp)).trans hi
      obtain⟨g',R'⟩:=R.Um hσ (J9.1 hnf) hdl hol (DA.1 hnd) (fun e=>by rw[e]at hag;simpa using hag) (fun j c d is h1 h2 h3=>(hcl j c d is h1 h2 h3).at fun x hx=>
       hrd x (List.mem_cons_of_mem _ (List.mem_append.2 (.inl (List.mem_flatten.2 ⟨is,List.mem_of_getElem? h3,hx⟩))))) hrows
      rw[show BP σh ((i,.tree kd ag sz rows' none)::(BO iss.flatten++wr))=BP (BP (AX σh i (.tree kd ag sz rows' none)) (BO iss.flatten)) wr from Ds]
      refine H F s _ a w ⟨g',R'⟩ fun x hx=>?_
      refine Q8 ?_
      have:=hrd x (List.mem_cons_of_mem _ (List.mem_append.2 (.inr hx)))
      simp only[AX]
      split
      ·rfl
      ·exact this
    ·exact hk.elim
   ·exact hk.elim
  ·exact hk.elim
theorem EW {C:Cx}{o:Oper}{fresh:Nat}{s:Af}{h:Heap}{gs:List Id}{K:Heap→(Out→Prop)→Prop}{k:Out→Prop}
  (hk:H3 h gs fun h' rd wr=>K h' fun out=>k ⟨out.val,rd++out.rd,wr++out.wr⟩)
  (hK:∀h' k',K h' k'→∃out,k' out∧Bm C o fresh s h' out):∃out,k out∧Bm C o fresh s h out:=by
 obtain⟨rd,wr,hk,H⟩:=M9 (C:=C) hk
 obtain⟨out,hk,hok⟩:=hK _ _ hk
 refine⟨_,hk,?_⟩
 intro F σs σh a w Q R ho hrd hF hd
 have R':=H F σs σh a w R (fun i hi=>hrd i (List.mem_append.2 (.inl hi)))
 have:=hok F σs (BP σh wr) a w Q R' ho (fun i hi=>Q8 (hrd i (List.mem_append.2 (.inr hi)))) hF hd
 rw[show BP σh (wr++out.wr)=BP (BP σh wr) out.wr from Ds]
 exact this
end Go.AM
namespace Go.AM
open Go Go.RowKit
def LB (h:Heap) (K:Heap→(Out→Prop)→Prop) (k:Out→Prop):Prop:=∃gs,H3 h gs fun h' rd wr=>K h' fun out=>k ⟨out.val,rd++out.rd,wr++out.wr⟩
def Ur:AV→Bool
 | .v (.c (.op _ _ _ _))=>true
 | .v (.c (.ow _))=>true
 | _=>false
def QE:Kd→Bool
 | .flat=>false
 | .fmap _=>false
 | .map=>false
 | _=>true
def Su (x:AV) (h:Heap) (K:Id→Kd→Bool→Nat→List D→Option (Nat×List CV)→Nat→Nat→Prop):Prop:=
 match x with
 | .v (.c (.op id sz kk o))=>match h id with
  | some (.tree kd ag sz' rows foc)=>Bq (Nat.beq sz' sz) (Bq (QE kd) (K id kd ag sz' rows foc kk o))
  | _=>False
 | .v (.c (.ow id))=>match h id with
  | some (.tree kd ag sz rows foc)=>match kd with
   | .box=>K id .box ag sz rows foc 0 0
   | _=>False
  | _=>False
 | _=>False
def Nq:D→Bool
 | .list _ _ _=>false
 | .box _=>false
 | .map _ _=>false
 | .nil=>false
 | _=>true
def loadT (ti:Types) (t:TypeId) (x:AV) (fresh:Nat) (h:Heap) (k:Out→Prop):Prop:=
 BK ti t fun i=>Su x h fun id kd ag sz rows foc kk o=>
 match foc with
 | some (k',cs)=>k'=kk∧Bq (Nat.ble (o+i.size) cs.length) (k ⟨.v (V1.BL (Ax i.desc) ((cs.drop o).take i.size)),[id],[]⟩)
 | none=>∃r,rows[kk]?=some r∧Bq (Nat.ble (o+i.size) r.cells.length) (∃b:Bool,match b with
  | true=>Bq (Ci Nq ((r.cells.drop o).take i.size)) (k ⟨.v (V1.BL (Ax i.desc) (((r.cells.drop o).take i.size).map CV.d)),[id],[]⟩)
  | false=>Bq (Nat.ble r.cells.length 32) (k ⟨.v (V1.BL (Ax i.desc) (((Dr fresh 0 r.cells).drop o).take i.size)),[id],(id,.tree kd ag sz rows (some (kk,Dr fresh 0 r.cells)))::Dx fresh 0 r.cells⟩))
def Ol (ti:Types) (t:TypeId) (x:AV) (fresh:Nat) (h:Heap) (k:Out→Prop):Prop:=LB h (fun h'=>loadT ti t x fresh h') k
def Jq (M:BS) (ti:Types) (t:TypeId) (x i:AV) (h:Heap) (k:Out→Prop):Prop:=
 HN i fun _ n=>BK ti t fun q=>
 match q.desc with
 | .slice e=>BK ti e fun j=>match x with
  | .v (.c (.ow id))=>match h id with
   | some (.tree kd ag sz rows _)=>match kd with
    | .row=>Bq (Nat.beq sz j.size)<| (M.lock fun _=>0≤n∧n.toNat<rows.length)∧k ⟨.v (.c (.op id sz n.toNat 0)),[id],[]⟩
    | _=>False
   | _=>False
  | _=>False
 | _=>False
def Nr (M:BS) (ti:Types) (t:TypeId) (x:AV) (h:Heap) (k:Out→Prop):Prop:=
 BK ti t fun q=>match x with
 | .v (.c (.ow id))=>match h id with
  | some (.tree kd _ _ rows _)=>match kd with
   | .row=>(match q.desc with
    | .slice _=>∃z:Int,M.lenI rows=z∧k ⟨.v (.d (.int .i64 z)),[id],[]⟩
    | _=>False)
   | .map=>(match q.desc with
    | .map _ _=>∃z:Int,M.lenI rows=z∧k ⟨.v (.d (.int .i64 z)),[id],[]⟩
    | _=>False)
   | _=>False
  | _=>False
 | _=>False
end Go.AM
namespace Go.AM
open Go Go.RowKit
section
variable {C:Cx}{ti:Types}{o:Oper}{fresh:Nat}{s:Af}{h:Heap}{k:Out→Prop}
def Bo (ti:Types):Prop:=∀t x,ti t=some x→Ax x.desc=false→x.size=1
theorem D0 {n:Nat}{U:Nat→Value}{j:Nat}{u:Value}(h:(((List.range n).map U).toArray)[j]?=some u):j<n∧u=U j:=by
 simp only[List.getElem?_toArray,List.getElem?_map,Option.map_eq_some_iff]at h
 obtain⟨x,hx,rfl⟩:=h
 obtain⟨hlt,hx⟩:=List.getElem?_eq_some_iff.1 hx
 simp at hlt hx
 subst hx
 exact⟨hlt,rfl⟩
theorem DN {P:Program}{w:World}{t:TypeId}{i:TI}(hti:BV P ti) (h1:Bo ti) (hi:ti t=some i) {b q:Nat}{vs:Array Value}(hs:vs.size=i.size)
  (hc:∀(j:Nat) u,vs[j]?=some u→w.cell? ⟨b,q+j,none⟩=some u):
  ∃v,(Instr.loadAt t (.pointer (some ⟨b,q,none⟩))).run P w= .ok v w∧(Ax i.desc=true→v= .agg vs)∧(Ax i.desc=false→vs=#[v]):=by
 obtain⟨hu,ii,hii,hsz,_⟩:=hti t i hi
 cases hr:Ax i.desc with
 | true=>
  refine⟨.agg vs,?_,fun _=>rfl,fun e=>by cases e⟩
  have:=run_loadAt_mid (P:=P) w b q t vs.toList i.desc (fun j v hv=>hc j v (by simpa using hv)) hu (by revert hr;cases i.desc<;>simp[Ax,TypeDesc.isRow]) (by simp[hii,hsz,hs])
  simpa using this
 | false=>
  have e1:=h1 t i hi hr
  obtain⟨v,hv⟩:∃v,vs=#[v]:=by
   have:vs.size=1:=by omega
   exact⟨vs[0],by
    apply Array.ext
    ·simp[this]
    ·intro k h1 h2
     obtain rfl:k=0:=by omega
     rfl⟩
  subst hv
  refine⟨v,?_,fun e=>(by cases e),fun _=>rfl⟩
  have hag:(isAgg t).run P w= .ok false w:=by
   unfold isAgg
   rw[Sem.run_bind,run_underlying hu w]
   revert hr
   cases i.desc<;>simp[Ax]
  have:=hc 0 v rfl
  simp only[Nat.add_zero]at this
  simp[Instr.loadAt,Instr.sureAddr,loadVar,hag,this]
theorem HB (hti:BV C.P ti) (h1:Bo ti) (t:TypeId) (X:AV) (hk:EV ti t X h k):∃out,k out∧out.wr=[]∧
  ∀F σs σh g a w u,Ap C F σs σh g a w→BG w (BN (zone g σh) C.X) g σh X u→(∀i∈out.rd,σh i=h i)→
   ∃v,(Instr.loadAt t u).run C.P w= .ok v w∧BG w (BN (zone g σh) C.X) g σh out.val v:=by
 unfold EV at hk
 obtain⟨i,hi,hk2⟩:=AZ.1 hk
 clear hk
 have fin:∀(cs:List CV) (rd:List Id),cs.length=i.size→
   (∀F σs σh g a w u,Ap C F σs σh g a w→BG w (BN (zone g σh) C.X) g σh X u→(∀i∈rd,σh i=h i)→
    ∃b q,∃vs:Array Value,u= .pointer (some ⟨b,q,none⟩)∧vs.size=i.size∧(∀(j:Nat) u,vs[j]?=some u→w.cell? ⟨b,q+j,none⟩=some u)∧
     ∀(j:Nat) c u,cs[j]?=some c→vs[j]?=some u→BM w (BN (zone g σh) C.X) g σh c u)→
   ∀F σs σh g a w u,Ap C F σs σh g a w→BG w (BN (zone g σh) C.X) g σh X u→(∀i∈rd,σh i=h i)→
    ∃v,(Instr.loadAt t u).run C.P w= .ok v w∧BG w (BN (zone g σh) C.X) g σh (.v (V1.BL (Ax i.desc) cs)) v:=by
  intro cs rd hl H F σs σh g a w u R hu hrd
  obtain⟨b,q,vs,he,hvs,hc,hr⟩:=H F σs σh g a w u R hu hrd
  obtain⟨v,hv,ha,hb⟩:=DN (P:=C.P) (w:=w) hti h1 hi hvs hc
  refine⟨v,by rw[he];exact hv,?_⟩
  have:=BE.BL (ag:=Ax i.desc) (by omega) hr
  cases hrow:Ax i.desc with
  | true=>rw[ha hrow];rw[hrow]at this;exact this.1 rfl
  | false=>rw[hrow]at this;exact this.2 rfl v (hb hrow)
 split at hk2
 ·rename_i id q
  split at hk2
  ·rename_i cs hcs
   obtain⟨hle,hk⟩:=AR.1 hk2
   have hle:q+i.size≤cs.length:=by simpa using hle
   refine⟨_,hk,rfl,fin _ _ (by simp;omega) fun F σs σh g a w u R hv hrd=>?_⟩
   obtain⟨⟨b,hb⟩,hv⟩:=hv
   rw[hb]at hv
   have hh:σh id=some (.cells cs):=(hrd id (by simp)).trans hcs
   obtain⟨b',c,e,hg,hheap,hsz,hr⟩:=R.heap.objs id _ hh
   rw[hb]at hg
   obtain rfl:b=b':=by simpa using hg
   have hget:∀(j:Nat) u,(c.extract q (q+i.size))[j]?=some u→c[q+j]?=some u∧j<i.size:=by
    intro j u hu
    have hlt:=(Array.getElem?_eq_some_iff.1 hu).1
    simp at hlt
    refine⟨?_,by omega⟩
    rw[←hu,Array.getElem?_extract]
    rw[if_pos (by omega)]
   refine⟨b,q,c.extract q (q+i.size),hv,by simp;omega,fun j u hu=>?_,fun j x u hx' hu=>?_⟩
   ·rw[cell_of_row w b (q+j) c e (0,0) hheap]
    exact (hget j u hu).1
   ·obtain⟨h1',h2'⟩:=hget j u hu
    refine hr (q+j) x u ?_ h1'
    simpa [List.getElem?_take,h2'] using hx'
  ·exact hk2.elim
 ·rename_i ag sz d
  obtain⟨hag,hk⟩:=AR.1 hk2
  obtain⟨hsz,hk⟩:=AR.1 hk
  have hag:Ax i.desc=ag:=by simpa using hag
  have hsz:sz=i.size:=by simpa using hsz
  refine⟨_,hk,rfl,fun F σs σh g a w u R hv _=>?_⟩
  obtain⟨⟨f1,f2,f3⟩,b,q,hv,U,hU⟩:=hv
  let vs:Array Value:=((List.range d.cells.length).map U).toArray
  have hget:∀(j:Nat) u,vs[j]?=some u→∃c,d.cells[j]?=some c∧u=U j:=by
   intro j u hu
   obtain⟨hlt,rfl⟩:=D0 hu
   exact⟨d.cells[j],by simp[hlt],rfl⟩
  obtain⟨v,hrun,ha,hb⟩:=DN (P:=C.P) (w:=w) (vs:=vs) (b:=b) (q:=q) hti h1 hi (by simp[vs];omega) (fun j u hu=>by
   obtain⟨c,hc,rfl⟩:=hget j u hu
   exact (hU j c hc).1)
  refine⟨v,by rw[hv];exact hrun,?_⟩
  cases hrow:Ax i.desc with
  | true=>
   rw[ha hrow]
   have hd:d.isAgg=true:=by rw[f1,←hag,hrow]
   obtain⟨cs,rfl⟩:∃cs,d= .agg cs:=by cases d<;>first | exact⟨_,rfl⟩ | simp[D.isAgg]at hd
   refine Aj.agg cs vs (by simp[vs,D.cells]) f3 (fun j c u hc hu=>?_)
   obtain⟨c',hc',rfl⟩:=hget j u hu
   exact (hU j c hc).2.2
  | false=>
   have hd:d.isAgg=false:=by rw[f1,←hag,hrow]
   have hcell:d.cells=[d]:=by cases d<;>first | rfl | simp[D.isAgg]at hd
   have hvv:=hb hrow
   obtain⟨c',hc',he⟩:=hget 0 v (by rw[hvv];rfl)
   rw[he]
   exact (hU 0 d (by rw[hcell];rfl)).2.2
 ·rename_i cs
  obtain⟨hle,hk⟩:=AR.1 hk2
  have hle:i.size≤cs.length:=by simpa using hle
  refine⟨_,hk,rfl,fin _ _ (by simp;omega) fun F σs σh g a w u R hv _=>?_⟩
  obtain⟨f1,b,q,hv,U,hU⟩:=hv
  refine⟨b,q,((List.range i.size).map U).toArray,hv,by simp,fun j u hu=>?_,fun j c u hc hu=>?_⟩
  ·obtain⟨hlt,rfl⟩:=D0 hu
   exact (hU j cs[j] (by simp)).1
  ·obtain⟨hlt,rfl⟩:=D0 hu
   simp only[List.getElem?_map,List.getElem?_take,hlt,if_true,Option.map_eq_some_iff]at hc
   obtain⟨d,hd,rfl⟩:=hc
   exact⟨(hU j d hd).2.2,f1 d (List.mem_of_getElem? hd)⟩
 ·rename_i id base sz kk o
  split at hk2
  rotate_left
  ·exact hk2.elim
  rename_i cs hcs
  split at hk2
  rotate_left
  ·exact hk2.elim
  rename_i ds hds
  obtain⟨n,r,hn,hr0,hk2⟩:=hk2
  obtain⟨hle,hk⟩:=AR.1 hk2
  have hle:=Nat.le_of_ble_eq_true hle
  have hn:=Nat.le_of_ble_eq_true hn
  obtain⟨hkk,rfl⟩:=FJ hr0
  have hle:o+i.size≤((ds.drop (kk*sz)).take sz).length:=hle
  have hks:kk*sz+sz≤ds.length:=by
   have:=Nat.mul_le_mul_right sz (show kk+1≤n from hkk)
   rw[Nat.add_mul]at this
   omega
  have hle:o+i.size≤sz:=by simp at hle;omega
  have hrc:(rowOf true ((ds.drop (kk*sz)).take sz)).cells=(ds.drop (kk*sz)).take sz:=rfl
  refine⟨_,hk,rfl,fin _ _ (by rw[hrc];simp;omega) fun F σs σh g a w u R hv hrd=>?_⟩
  obtain⟨al,ar⟩:=Oh (w:=w) (Z:=BN (zone g σh) C.X) (g:=g) (h:=σh) hds
  obtain⟨⟨b,hb⟩,hv⟩:=hv
  rw[hb]at hv
  have hh:σh id=some (.cells cs):=(hrd id (by simp)).trans hcs
  obtain⟨b',c,e,hg,hheap,hsz,hr⟩:=R.heap.objs id _ hh
  rw[hb]at hg
  obtain rfl:b=b':=by simpa using hg
  have hal:ds.length=cs.length - base:=by rw[al];simp
  obtain⟨q,hq⟩:∃q,q=base+(kk*sz+o):=⟨_,rfl⟩
  rw[←hq]at hv
  have hget:∀(j:Nat) u,(c.extract q (q+i.size))[j]?=some u→c[q+j]?=some u∧j<i.size:=by
   intro j u hu
   have hlt:=(Array.getElem?_eq_some_iff.1 hu).1
   simp at hlt
   refine⟨?_,by omega⟩
   rw[←hu,Array.getElem?_extract]
   rw[if_pos (by omega)]
  refine⟨b,q,c.extract q (q+i.size),hv,by simp;omega,fun j u hu=>?_,fun j x u hx' hu=>?_⟩
  ·rw[cell_of_row w b (q+j) c e (0,0) hheap]
   exact (hget j u hu).1
  ·obtain⟨h1',h2'⟩:=hget j u hu
   rw[hrc]at hx'
   simp only[List.getElem?_map,Option.map_eq_some_iff]at hx'
   obtain⟨d,hd,rfl⟩:=hx'
   rw[List.getElem?_take_of_lt h2',List.getElem?_drop,List.getElem?_take_of_lt (by omega),List.getElem?_drop]at hd
   have hlt:=(List.getElem?_eq_some_iff.1 hd).1
   obtain⟨x0,hcj⟩:∃x0,cs[q+j]?=some x0:=⟨_,List.getElem?_eq_getElem (by omega)⟩
   have hdr:(cs.drop base)[kk*sz+(o+j)]?=some x0:=by
    rw[List.getElem?_drop,←hcj]
    congr 1
    omega
   exact ar _ _ _ _ hd hdr (hr (q+j) _ u hcj h1')
 ·exact hk2.elim
theorem Uz (hti:BV C.P ti) (h1:Bo ti) (t:TypeId) (x:Operand) (ho:o.op= .load t x) (hk:EV ti t (BQ ti s 0 x) h k):∃out,k out∧Bm C o fresh s h out:=by
 obtain⟨⟨val,rd,wr⟩,hko,hwr,H⟩:=HB (C:=C) hti h1 t _ hk
 simp only[]at hwr
 subst hwr
 refine⟨_,hko,AY fun F σs σh g a w R hs hrd=>?_⟩
 have hx:=Ai ti 0 x R (s:=s) (fun k hk=>hs k (by subst hk;simp[ho,Op.operands]))
 obtain⟨v,hv,hr⟩:=H F σs σh g a w _ R hx hrd
 exact⟨v,by simp only[execOp,ho];exact Bn hv,hr⟩
theorem Bz (b q n:Nat):(⟨b,q,none⟩:Addr).add n=⟨b,q+n,none⟩:=by unfold Addr.add;split<;>simp_all
theorem Sv (hti:BV C.P ti) (t:TypeId) (x y:Operand) (ho:o.op= .store t x y) (hd:o.dst=none) (hk:K2 ti t (BQ ti s 0 x) (BQ ti s t y) h k):∃out,k out∧Bm C o fresh s h out:=by
 unfold K2 at hk
 obtain⟨i,hi,hk⟩:=AZ.1 hk
 obtain⟨yv,hyv,hk⟩:=DH.1 hk
 split at hk
 ·rename_i id q hop
  split at hk
  ·rename_i cs hcs
   obtain⟨hle,hk⟩:=AR.1 hk
   obtain⟨hlen,hk⟩:=AR.1 hk
   have hle:q+i.size≤cs.length:=by simpa using hle
   have hlen:yv.cells.length=i.size:=by simpa using hlen
   refine⟨_,hk,?_⟩
   rintro F σs σh a w Q ⟨g,R⟩ hs hrd hF _
   have hx:=Ai ti 0 x R (s:=s) (fun k hk=>hs k (by subst hk;simp[ho,Op.operands]))
   have hy:=Ai ti t y R (s:=s) (fun k hk=>hs k (by subst hk;simp[ho,Op.operands]))
   rw[hop]at hx
   rw[hyv]at hy
   obtain⟨⟨b,hb⟩,hx⟩:=hx
   rw[hb]at hx
   obtain⟨hy1,hy2⟩:=BE.cells hy
   have hh:σh id=some (.cells cs):=(hrd id (by simp)).trans hcs
   obtain⟨b',c,e,hg,hheap,hsz,hr⟩:=R.heap.objs id _ hh
   rw[hb]at hg
   obtain rfl:b=b':=by simpa using hg
   have hone:∀v∈(a.eval y).cells.toList,v.oneCell'=true:=by
    intro v hv
    obtain⟨j,hj⟩:=List.mem_iff_getElem?.1 hv
    have hlt:=(List.getElem?_eq_some_iff.1 hj).1
    simp at hlt hj
    exact BM.Bw (hy2 j yv.cells[j] v (by simp) (by simpa using hj))
   have hst:=run_storeCells_at C.P b q e (a.eval y).cells.toList 0 c w hheap (by simp;omega) hone
   simp only[Nat.add_zero,Array.length_toList]at hst
   obtain⟨_,ii,hii,hsi,_⟩:=hti t i hi
   have hrun:(execOp a.eval o).run C.P w= .ok .skip (w.setRow b (c.toList.take q++(a.eval y).cells.toList++c.toList.drop (q+(a.eval y).cells.size)).toArray):=by
    simp only[execOp,ho,hx,DG,Instr.storeAt,Instr.sureAddr,storeVar,sizeOf,typeInfo,Sem.run_bind,run_program,Result.andThen_ok,Sem.run_pure,hii,hsi,hy1,hlen]
    simp[hst]
    rw[hy1,hlen]
   unfold Oper.wp
   rw[hrun]
   have R':=R.store (cs':=cs.take q++yv.cells++cs.drop (q+i.size)) (c':=(c.toList.take q++(a.eval y).cells.toList++c.toList.drop (q+(a.eval y).cells.size)).toArray) hh hb hheap
    (by simp;omega) (fun j z u hz hu=>?_)
   ·refine⟨g,?_⟩
    rw[hd]
    exact (R'.put (dst:=none) (v:=.u) (u:=undef) (fun d e=>by cases e) trivial).BH (fun n hn=>hn.1)
   ·simp only[List.getElem?_toArray,List.append_assoc]at hu hz
    by_cases h1:j<q
    ·rw[List.getElem?_append_left (by simp;omega),List.getElem?_take,if_pos h1]at hu hz
     exact hr j z u hz (by simpa using hu)
    ·rw[List.getElem?_append_right (by simp;omega)]at hu hz
     have e1:(cs.take q).length=q:=by simp;omega
     have e2:(c.toList.take q).length=q:=by simp;omega
     rw[e1]at hz
     rw[e2]at hu
     by_cases h2:j - q<i.size
     ·rw[List.getElem?_append_left (by omega)]at hz
      rw[List.getElem?_append_left (by simp;omega)]at hu
      exact hy2 (j - q) z u hz (by simpa using hu)
     ·rw[List.getElem?_append_right (by omega),List.getElem?_drop]at hz
      rw[List.getElem?_append_right (by simp;omega),List.getElem?_drop]at hu
      simp only[Array.length_toList]at hu
      refine hr _ z u hz ?_
      rw[hy1]at hu
      rw[←hlen]
      simpa [hlen] using hu
  ·exact hk.elim
 ·exact hk.elim
end
end Go.AM
namespace Go.AM
open Go Go.RowKit
section
variable {C:Cx}{ti:Types}{o:Oper}{fresh:Nat}{s:Af}{h:Heap}{k:Out→Prop}
theorem Fh {P:Program}(hti:BV P ti) {t:TypeId}{i:TI}(hi:ti t=some i) (w:World):(sizeOf t).run P w= .ok i.size w:=by
 obtain⟨_,ii,hii,hsi,_⟩:=hti t i hi
 simp[sizeOf,typeInfo,hii,hsi]
theorem DB {P:Program}(hti:BV P ti) {t:TypeId}{i:TI}(hi:ti t=some i) (w:World):(underlying t).run P w= .ok i.desc w:=
 run_underlying (hti t i hi).1 w
theorem Sw (hti:BV C.P ti) (t:TypeId) (x:Operand) (f:Nat) (ho:o.op= .fieldAddr t x f) (hk:K3 ti t (BQ ti s 0 x) f k):∃out,k out∧Bm C o fresh s h out:=by
 unfold K3 at hk
 obtain⟨i,hi,hk⟩:=AZ.1 hk
 split at hk
 ·rename_i fs hfs
  split at hk
  ·rename_i fd hfd
   obtain⟨j,hj,hk⟩:=AZ.1 hk
   obtain⟨hpos,hk⟩:=AR.1 hk
   have hpos:j.size≠0:=by
    have:0<j.size:=by simpa using hpos
    omega
   have hrun:∀(b q:Nat) (a:Act) (w:World),a.eval x= .pointer (some ⟨b,q,none⟩)→
     (execOp a.eval o).run C.P w= .ok (.value (.pointer (some ⟨b,q+fd.offset,none⟩))) w:=by
    intro b q a w he
    have h1:=DB hti hi w
    rw[hfs]at h1
    have h2:=Fh hti hj w
    simp only[execOp,ho,he]
    refine Bn ?_
    simp[Instr.fieldAt,h1,hfd,Instr.sureAddr,fieldPlace,h2,hpos,Bz]
   have hx:=fun (F:Nat→Prop) (σs:Af) (σh:Heap) (g:Ac) (a:Act) (w:World) (R:Ap C F σs σh g a w) (hs:∀t,Operand.tmp t∈o.op.operands.toList→σs t=s t)=>
    Ai ti 0 x R (s:=s) (fun k hk=>hs k (by subst hk;simp[ho,Op.operands]))
   split at hk
   ·rename_i id q hop
    refine⟨_,hk,AY fun F σs σh g a w R hs _=>?_⟩
    have hv:=hx F σs σh g a w R hs
    rw[hop]at hv
    obtain⟨⟨b,hb⟩,hv⟩:=hv
    rw[hb]at hv
    exact⟨_,hrun b q a w hv,⟨b,hb⟩,by rw[hb];rfl⟩
   ·rename_i ag sz d hop
    refine⟨_,hk,AY fun F σs σh g a w R hs _=>?_⟩
    have hv:=hx F σs σh g a w R hs
    rw[hop]at hv
    obtain⟨hf,b,q,hv,U,hU⟩:=hv
    refine⟨_,hrun b q a w hv,fun c hc=>hf.2.2 c (List.mem_of_mem_drop hc),b,_,rfl,fun n=>U (fd.offset+n),fun n c hc=>?_⟩
    rw[List.getElem?_drop]at hc
    have:=hU _ c hc
    rw[show q+fd.offset+n=q+(fd.offset+n)from by omega]
    exact this
   ·rename_i cs hop
    refine⟨_,hk,AY fun F σs σh g a w R hs _=>?_⟩
    have hv:=hx F σs σh g a w R hs
    rw[hop]at hv
    obtain⟨hf,b,q,hv,U,hU⟩:=hv
    refine⟨_,hrun b q a w hv,fun c hc=>hf c (List.mem_of_mem_drop hc),b,_,rfl,fun n=>U (fd.offset+n),fun n c hc=>?_⟩
    rw[List.getElem?_drop]at hc
    have:=hU _ c hc
    rw[show q+fd.offset+n=q+(fd.offset+n)from by omega]
    exact this
   ·rename_i id bs sz kk q hop
    refine⟨_,hk,AY fun F σs σh g a w R hs _=>?_⟩
    have hv:=hx F σs σh g a w R hs
    rw[hop]at hv
    obtain⟨⟨b,hb⟩,hv⟩:=hv
    rw[hb]at hv
    refine⟨_,hrun b _ a w hv,⟨b,hb⟩,?_⟩
    rw[hb]
    show Value.pointer (some ⟨b,bs+(kk*sz+q)+fd.offset,none⟩)=Value.pointer (some ⟨b,bs+(kk*sz+(q+fd.offset)),none⟩)
    rw[show bs+(kk*sz+q)+fd.offset=bs+(kk*sz+(q+fd.offset))from by omega]
   ·exact hk.elim
  ·exact hk.elim
 ·exact hk.elim
theorem Kc {w:World}{Z:Av}{ag:Bool}{sz:Nat}{rows:List D}{v:Value}(r:Aj w Z (.list ag sz rows) v):
  ∃a cap,v= .slice a rows.length cap∧rows.length≤cap∧cap≤maxLen∧(∀r∈rows,r.fits ag sz)∧
   ∃b o,(rows≠[]→a=some ⟨b,o,none⟩)∧∃U:Nat→Nat→Value,∀(i:Nat) r (j:Nat) c,rows[i]?=some r→r.cells[j]?=some c→
    w.cell? ⟨b,o+(i*sz+j),none⟩=some (U i j)∧¬Z b (o+(i*sz+j))∧Aj w Z c (U i j):=by
 cases r with
 | list ag sz rows a cap b o U hcap hmax hfit ha hc hr=>
  exact⟨a,cap,rfl,hcap,hmax,hfit,b,o,ha,U,fun i r j c h1 h2=>⟨(hc i r j c h1 h2).1,(hc i r j c h1 h2).2,hr i r j c h1 h2⟩⟩
theorem Sx (hti:BV C.P ti) (t:TypeId) (x y:Operand) (ho:o.op= .indexAddr t x y) (hk:K4 ti t (BQ ti s t x) (BQ ti s 3 y) k):∃out,k out∧Bm C o fresh s h out:=by
 unfold K4 at hk
 obtain⟨q,n,hyv,hk⟩:=DI.1 hk
 obtain⟨i,hi,hk⟩:=AZ.1 hk
 have hx:=fun (F:Nat→Prop) (σs:Af) (σh:Heap) (g:Ac) (a:Act) (w:World) (R:Ap C F σs σh g a w) (hs:∀t,Operand.tmp t∈o.op.operands.toList→σs t=s t)=>
  And.intro (Ai ti t x R (s:=s) (fun k hk=>hs k (by subst hk;simp[ho,Op.operands]))) (Ai ti 3 y R (s:=s) (fun k hk=>hs k (by subst hk;simp[ho,Op.operands])))
 split at hk
 ·rename_i e hdesc
  obtain⟨j,hj,hk⟩:=AZ.1 hk
  split at hk
  ·rename_i id len hop
   obtain⟨p,⟨hnp,hp⟩,hk⟩:=hk
   refine⟨_,hk,AY fun F σs σh g a w R hs _=>?_⟩
   subst hnp
   obtain⟨hv,hn⟩:=hx F σs σh g a w R hs
   rw[hyv]at hn
   have hn:=GF hn
   rw[hop]at hv
   obtain⟨⟨b,hb⟩,hv⟩:=hv
   rw[hb]at hv
   have hv:a.eval x= .slice (some ⟨b,0,none⟩) len len:=hv
   have h1:=DB hti hi w
   rw[hdesc]at h1
   have h2:=Fh hti hj w
   refine⟨.pointer (some ⟨b,p*j.size,none⟩),?_,⟨⟨b,hb⟩,by rw[hb];simp[DG]⟩⟩
   have hp':(p:Int)<(len:Int):=Int.ofNat_lt.2 hp
   simp only[execOp,ho]
   refine Bn ?_
   simp[Instr.indexAt,asIntOf,h1,h2,hv,hn,hp,Bz,Instr.sureAddr]
  obtain⟨ag,sz,rows,hrel,hk⟩:=E2 hk
  obtain⟨hag,hk⟩:=AR.1 hk
  obtain⟨hsz,hk⟩:=AR.1 hk
  obtain⟨r,h0,hr,hk⟩:=hk
  have hsz:sz=j.size:=by simpa using hsz
  subst hsz
  refine⟨_,hk,AY fun F σs σh g a w R hs _=>?_⟩
  obtain⟨hv,hn⟩:=hx F σs σh g a w R hs
  rw[hyv]at hn
  have hn:=GF hn
  obtain⟨A,cap,hv,hcap,hmax,hfit,b,o',hA,U,hU⟩:=Kc (hrel hv)
  have hlt:n.toNat<rows.length:=(List.getElem?_eq_some_iff.1 hr).1
  have hA:=hA (by intro e;rw[e]at hlt;simp at hlt)
  subst hA
  refine⟨.pointer (some ⟨b,o'+n.toNat*j.size,none⟩),?_,hfit r (List.mem_of_getElem? hr),b,_,rfl,fun c=>U n.toNat c,fun c z hz=>?_⟩
  ·have h1:=DB hti hi w
   rw[hdesc]at h1
   have h2:=Fh hti hj w
   simp only[execOp,ho,hv,hn]
   refine Bn ?_
   have h3:0≤n∧n<(rows.length:Int):=by omega
   simp[Instr.indexAt,asIntOf,h1,h2,h3,Bz]
  ·have:=hU n.toNat r c z hr hz
   rw[show o'+n.toNat*j.size+c=o'+(n.toNat*j.size+c)from by omega]
   exact this
 ·rename_i len e hdesc
  obtain⟨j,hj,hk⟩:=AZ.1 hk
  split at hk
  ·rename_i id q' hop
   obtain⟨h0,hl,c,hk⟩:=hk
   cases c with
   | false=>
    refine⟨_,hk,AY fun F σs σh g a w R hs _=>?_⟩
    obtain⟨hv,hn⟩:=hx F σs σh g a w R hs
    rw[hyv]at hn
    have hn:=GF hn
    rw[hop]at hv
    obtain⟨⟨b,hb⟩,hv⟩:=hv
    rw[hb]at hv
    refine⟨.pointer (some ⟨b,q'+n.toNat*j.size,none⟩),?_,⟨b,hb⟩,by rw[hb];rfl⟩
    have h1:=DB hti hi w
    rw[hdesc]at h1
    have h2:=Fh hti hj w
    simp only[execOp,ho,hv,hn,DG]
    refine Bn ?_
    simp[Instr.indexAt,asIntOf,h1,h2,h0,hl,Bz,Instr.sureAddr]
   | true=>
   refine⟨_,hk,AY fun F σs σh g a w R hs _=>?_⟩
   obtain⟨hv,hn⟩:=hx F σs σh g a w R hs
   rw[hyv]at hn
   have hn:=GF hn
   rw[hop]at hv
   obtain⟨⟨b,hb⟩,hv⟩:=hv
   rw[hb]at hv
   refine⟨.pointer (some ⟨b,q'+n.toNat*j.size,none⟩),?_,⟨b,hb⟩,by rw[hb];rfl⟩
   have h1:=DB hti hi w
   rw[hdesc]at h1
   have h2:=Fh hti hj w
   simp only[execOp,ho,hv,hn,DG]
   refine Bn ?_
   simp[Instr.indexAt,asIntOf,h1,h2,h0,hl,Bz,Instr.sureAddr]
  ·exact hk.elim
 ·exact hk.elim
theorem We (hti:BV C.P ti) (t:TypeId) (x:Operand) (ho:o.op= .call {callee:=.builtin .len,args:=#[x],argTypes:=#[t]}) (hk:P8 C.M ti t (BQ ti s t x) k):∃out,k out∧Bm C o fresh s h out:=by
 unfold P8 at hk
 obtain⟨i,hi,hk⟩:=AZ.1 hk
 have hx:=fun (F:Nat→Prop) (σs:Af) (σh:Heap) (g:Ac) (a:Act) (w:World) (R:Ap C F σs σh g a w) (hs:∀t,Operand.tmp t∈o.op.operands.toList→σs t=s t)=>
  Ai ti t x R (s:=s) (fun k hk=>hs k (by subst hk;simp[ho,Op.operands,Call.operands]))
 split at hk
 ·rename_i e hdesc
  split at hk
  ·rename_i id n hop
   obtain⟨z,hz,hk⟩:=hk
   refine⟨_,hk,AY fun F σs σh g a w R hs _=>?_⟩
   have hv:=hx F σs σh g a w R hs
   rw[hop]at hv
   obtain⟨⟨b,hb⟩,hv⟩:=hv
   rw[hb]at hv
   have hv:a.eval x= .slice (some ⟨b,0,none⟩) n n:=hv
   refine⟨.int .i64 z,?_,.int _ _⟩
   have h1:=DB hti hi w
   rw[hdesc]at h1
   simp[execOp,ho,resolve,invoke,builtin,Builtin.len_,h1,hv,goInt,hz]
  obtain⟨ag,sz,rows,hrel,z,hz,hk⟩:=E2 hk
  refine⟨_,hk,AY fun F σs σh g a w R hs _=>?_⟩
  obtain⟨A,cap,hv,_⟩:=Kc (hrel (hx F σs σh g a w R hs))
  rw[←hz,C.M.lenI_eq]
  refine⟨.int .i64 rows.length,?_,.int _ _⟩
  have h1:=DB hti hi w
  rw[hdesc]at h1
  simp[execOp,ho,resolve,invoke,builtin,Builtin.len_,h1,hv,goInt]
 ·rename_i hdesc
  split at hk
  ·rename_i b hop
   obtain⟨z,hz,hk⟩:=hk
   refine⟨_,hk,AY fun F σs σh g a w R hs _=>?_⟩
   have hv:=hx F σs σh g a w R hs
   rw[hop]at hv
   have hv:=Oi hv
   rw[←hz,C.M.szI_eq]
   refine⟨.int .i64 b.size,?_,.int _ _⟩
   have h1:=DB hti hi w
   rw[hdesc]at h1
   simp[execOp,ho,resolve,invoke,builtin,Builtin.len_,h1,hv,goInt]
  ·exact hk.elim
 ·rename_i n e hdesc
  refine⟨_,hk,AY fun F σs σh g a w R hs _=>?_⟩
  refine⟨.int .i64 n,?_,.int _ _⟩
  have h1:=DB hti hi w
  rw[hdesc]at h1
  simp[execOp,ho,resolve,invoke,builtin,Builtin.len_,h1,goInt]
 ·exact hk.elim
theorem Dn (b:Bool):HK b=!b:=by cases b<;>rfl
theorem IT (a b:Bool):Sl a b=(a==b):=by cases a<;>cases b<;>rfl
theorem Xo (op:UnOp) (t:TypeId) (x:Operand) (ho:o.op= .unOp op t x) (hk:Sm op (BQ ti s o.type x) k):∃out,k out∧Bm C o fresh s h out:=by
 unfold Sm at hk
 have hx:=fun (F:Nat→Prop) (σs:Af) (σh:Heap) (g:Ac) (a:Act) (w:World) (R:Ap C F σs σh g a w) (hs:∀t,Operand.tmp t∈o.op.operands.toList→σs t=s t)=>
  Ai ti o.type x R (s:=s) (fun k hk=>hs k (by subst hk;simp[ho,Op.operands]))
 split at hk
 ·rename_i b hop
  obtain⟨q,rfl,hk⟩:=hk
  refine⟨_,hk,AY fun F σs σh g a w R hs _=>?_⟩
  have hv:=hx F σs σh g a w R hs
  rw[hop]at hv
  have hv:=Nk hv
  rw[Dn]
  exact⟨.bool !b,by simp[execOp,ho,hv,Op.unary],.bool _⟩
 ·rename_i q n hop
  obtain⟨z,rfl,hk⟩:=hk
  refine⟨_,hk,AY fun F σs σh g a w R hs _=>?_⟩
  have hv:=hx F σs σh g a w R hs
  rw[hop]at hv
  have hv:=GF hv
  exact⟨.int q (q.wrap (0 - n)),by simp[execOp,ho,hv,Op.unary,Op.intArith],.int _ _⟩
 ·exact hk.elim
theorem Om (x:Operand) (ho:o.op= .nilCheck x) {i:Id}{q:Nat}(hop:BQ ti s 0 x= .v (.c (.ptr i q))):Bm C o fresh s h ⟨.v (.c (.ptr i q)),[],[]⟩:=by
 refine AY fun F σs σh g a w R hs _=>?_
 have hv:=Ai ti 0 x R (s:=s) (fun k hk=>hs k (by subst hk;simp[ho,Op.operands]))
 rw[hop]at hv
 have hv':=hv
 obtain⟨⟨b,hb⟩,hv⟩:=hv
 rw[hb]at hv
 exact⟨a.eval x,by simp[execOp,ho,hv,DG],hv'⟩
theorem Sy {w:World}{Z:Av}{g:Ac}{h:Heap}{xs:List AV}{vs:List Value}{l:List Id}(he:Mj xs=some l) (hl:vs.length=xs.length)
  (hr:∀(j:Nat) x v,xs[j]?=some x→vs[j]?=some v→BG w Z g h x v):vs=l.map (fun i=>DG (g i) 0)∧∀i∈l,∃b,g i= .pointer (some ⟨b,0,none⟩):=by
 induction xs generalizing vs l with
 | nil=>
  simp[Mj]at he
  subst he
  match vs,hl with
  | [],_=>exact⟨rfl,by simp⟩
 | cons x xs ih=>
  match vs,hl with
  | v::vs,hl=>
   unfold Mj at he
   split at he
   ·rename_i e;simp at e
   ·rename_i i r e
    simp at e
    obtain⟨rfl,rfl⟩:=e
    split at he
    ·rename_i l' hl'
     simp at he
     subst he
     obtain⟨h1,h2⟩:=ih hl' (by simpa using hl) (fun j x v hx hv=>hr (j+1) x v (by simpa using hx) (by simpa using hv))
     obtain⟨hb,hv⟩:=hr 0 _ v rfl rfl
     refine⟨by rw[List.map_cons,←h1,hv],fun i' hi=>?_⟩
     rcases List.mem_cons.1 hi with rfl | hi
     ·exact hb
     ·exact h2 i' hi
    ·simp at he
   ·simp at he
theorem Oo (fn:Fn) (first captured:Array Operand) (ho:o.op= .makeFunc fn first captured) {f:Nat}(hf:fn= .func f) (hfi:first.toList=[]) {l:List Id}
  (hl:Mj (captured.toList.map (BQ ti s 0))=some l):Bm C o fresh s h ⟨.v (.c (.fn f l)),[],[]⟩:=by
 refine AY fun F σs σh g a w R hs _=>?_
 have hfi:first=#[]:=by simpa using hfi
 subst hfi
 have:=Sy (w:=w) (Z:=BN (zone g σh) C.X) (g:=g) (h:=σh) (vs:=captured.toList.map a.eval) hl (by simp) (fun j x v hx hv=>by
  simp only[List.getElem?_map,Option.map_eq_some_iff]at hx hv
  obtain⟨p,hp,rfl⟩:=hx
  obtain⟨p',hp',rfl⟩:=hv
  rw[hp]at hp'
  obtain rfl:p=p':=by simpa using hp'
  refine Ai ti 0 p R (s:=s) (fun k hk=>hs k ?_)
  subst hk
  have:=List.mem_of_getElem? hp
  simp only[ho,Op.operands]
  simpa using this)
 refine⟨.func (.func f) #[] (captured.map a.eval),by simp[execOp,ho,hf,Instr.makeFunc],?_,this.2⟩
 rw[←this.1]
 apply congrArg
 apply Array.ext'
 simp
theorem Rx (fn:Fn) (first captured:Array Operand) (ho:o.op= .makeFunc fn first captured) {f:Nat}(hf:fn= .func f) {x:Operand}(hfi:first.toList=[x]) (hl:captured.toList=[]) {i:Id}
  (hx:BQ ti s 0 x= .v (.c (.ptr i 0))):Bm C o fresh s h ⟨.v (.c (.bm f i)),[],[]⟩:=by
 refine AY fun F σs σh g a w R hs _=>?_
 have hfi:first=#[x]:=by
  apply Array.ext';simpa using hfi
 have hl:captured=#[]:=by simpa using hl
 subst hfi
 subst hl
 have r:=Ai ti 0 x R (s:=s) (fun k hk=>hs k (by subst hk;simp[ho,Op.operands]))
 rw[hx]at r
 obtain⟨⟨b,hb⟩,hv⟩:=r
 refine⟨.func (.func f) #[a.eval x] #[],by simp[execOp,ho,hf,Instr.makeFunc],⟨b,hb⟩,?_⟩
 rw[hv]
theorem KS {P:Program}{t:TypeId}(h:P.underlying t=some .bool) (a b:Bool) (w:World) (d:Nat):(Op.equalIn (d+1) t (.bool a) (.bool b)).run P w= .ok (a==b) w:=by
 simp[Op.equalIn,run_underlying h w]
theorem Ml {P:Program}{t e:TypeId}(h:P.underlying t=some (.pointer e)) (a:Option Addr) (w:World) (d:Nat):(Op.equalIn (d+1) t (.pointer a) (.pointer none)).run P w= .ok a.isNone w:=by
 cases a<;>simp[Op.equalIn,run_underlying h w]
theorem Mm {P:Program}{t e k:TypeId}(h:P.underlying t=some (.map k e)) (a:Option Nat) (w:World) (d:Nat):(Op.equalIn (d+1) t (.map a) (.map none)).run P w= .ok a.isNone w:=by
 cases a<;>simp[Op.equalIn,run_underlying h w]
theorem run_equal_bool {P:Program}{t:TypeId}(h:P.underlying t=some .bool) (a b:Bool) (w:World):(Op.equal t (.bool a) (.bool b)).run P w= .ok (a==b) w:=
 KS h a b w 9999
theorem D1 {P:Program}{t e:TypeId}(h:P.underlying t=some (.pointer e)) (a:Option Addr) (w:World):(Op.equal t (.pointer a) (.pointer none)).run P w= .ok a.isNone w:=
 Ml h a w 9999
theorem D2 {P:Program}{t e k:TypeId}(h:P.underlying t=some (.map k e)) (a:Option Nat) (w:World):(Op.equal t (.map a) (.map none)).run P w= .ok a.isNone w:=
 Mm h a w 9999
theorem Wf (hti:BV C.P ti) (op:BinOp) (t t':TypeId) (x y:Operand) (ho:o.op= .binOp op t x y t') (hk:P9 C.M ti op t (BQ ti s t x) (BQ ti s t y) k):∃out,k out∧Bm C o fresh s h out:=by
  have hx:=fun (F:Nat→Prop) (σs:Af) (σh:Heap) (g:Ac) (a:Act) (w:World) (R:Ap C F σs σh g a w) (hs:∀t,Operand.tmp t∈o.op.operands.toList→σs t=s t)=>
    And.intro (Ai ti t x R (s:=s) (fun k hk=>hs k (by subst hk;simp[ho,Op.operands]))) (Ai ti t y R (s:=s) (fun k hk=>hs k (by subst hk;simp[ho,Op.operands])))
  unfold P9 at hk
  simp only[]at hk
  split at hk
  · rename_i q n q' m hop hop'
    obtain⟨hq,hk2⟩:=AR.1 hk
    clear hk
    obtain rfl:q=q':=by simpa using hq
    have fin:∀(d:D) (v:Value),(∀(a:Act) (w:World),a.eval x= .int q n→a.eval y= .int q m→(execOp a.eval o).run C.P w= .ok (.value v) w)→(∀w Z,Aj w Z d v)→Bm C o fresh s h ⟨.v (.d d),[],[]⟩:=by
      intro d v H1 H2
      refine AY fun F σs σh g a w R hs _=>?_
      obtain⟨h1,h2⟩:=hx F σs σh g a w R hs
      rw[hop]at h1
      rw[hop']at h2
      exact⟨v,H1 a w (GF h1) (GF h2),H2 _ _⟩
    unfold Vy at hk2
    split at hk2
    all_goals first
      | exact hk2.elim
      | (obtain⟨z,hz,hk3⟩:=hk2
         subst hz
         exact⟨_,hk3,fin _ _ (fun a w h1 h2=>by (simp[execOp,ho,h1,h2,eqGuard,binOp,Op.intArith];try rfl)) (fun _ _=>.int _ _)⟩)
      | (obtain⟨z,hne,hz,hk3⟩:=hk2
         subst hz
         exact⟨_,hk3,fin _ _ (fun a w h1 h2=>by (simp[execOp,ho,h1,h2,eqGuard,binOp,Op.intDiv,hne];try rfl)) (fun _ _=>.int _ _)⟩)
      | exact⟨_,(C.M.split_iff _ _).1 hk2,by
          simp only[Dn,C.M.eqI_eq,C.M.ltI_eq,C.M.leI_eq]
          exact fin _ _ (fun a w h1 h2=>by (simp[execOp,ho,h1,h2,eqGuard,binOp,Op.intCmp];try rfl)) (fun _ _=>.bool _)⟩
  · rename_i b b' hop hop'
    have fin:∀(d:D) (v:Value),(∀(a:Act) (w:World),a.eval x= .string b→a.eval y= .string b'→(execOp a.eval o).run C.P w= .ok (.value v) w)→(∀w Z,Aj w Z d v)→Bm C o fresh s h ⟨.v (.d d),[],[]⟩:=by
      intro d v H1 H2
      refine AY fun F σs σh g a w R hs _=>?_
      obtain⟨h1,h2⟩:=hx F σs σh g a w R hs
      rw[hop]at h1
      rw[hop']at h2
      exact⟨v,H1 a w (Oi h1) (Oi h2),H2 _ _⟩
    unfold Vz at hk
    split at hk
    · obtain⟨cc,rfl,hsz,hk⟩:=hk
      refine⟨_,hk,fin _ (.string (b++b')) (fun a w h1 h2=>?_) (fun _ _=>.str _)⟩
      have:¬((b.size:Int)+b'.size>IntKind.i64.max):=by simpa using hsz
      simp[execOp,ho,h1,h2,eqGuard,binOp,Op.stringOp]
      simp at this
      omega
    · exact⟨_,(C.M.split_iff _ _).1 hk,by
          simp only[Dn,C.M.eqS_eq,C.M.ltS_eq]
          exact fin _ _ (fun a w h1 h2=>by (simp[execOp,ho,h1,h2,eqGuard,binOp,Op.stringOp];try rfl)) (fun _ _=>.bool _)⟩
    · exact⟨_,(C.M.split_iff _ _).1 hk,by
          simp only[Dn,C.M.eqS_eq,C.M.ltS_eq]
          exact fin _ _ (fun a w h1 h2=>by (simp[execOp,ho,h1,h2,eqGuard,binOp,Op.stringOp];try rfl)) (fun _ _=>.bool _)⟩
    · exact⟨_,(C.M.split_iff _ _).1 hk,by
          simp only[Dn,C.M.eqS_eq,C.M.ltS_eq]
          exact fin _ _ (fun a w h1 h2=>by (simp[execOp,ho,h1,h2,eqGuard,binOp,Op.stringOp];try rfl)) (fun _ _=>.bool _)⟩
    · exact hk.elim
  all_goals first
    | exact hk.elim
    | skip
  · rename_i b b' hop hop'
    obtain⟨i,hi,hk⟩:=AZ.1 hk
    split at hk
    · rename_i hdesc
      have hu:=(hti t i hi).1
      rw[hdesc]at hu
      split at hk
      · obtain⟨q,rfl,hk⟩:=hk
        refine⟨_,hk,AY fun F σs σh g a w R hs _=>?_⟩
        obtain⟨h1,h2⟩:=hx F σs σh g a w R hs
        rw[hop]at h1
        rw[hop']at h2
        rw[IT]
        exact⟨.bool (b==b'),by simp[execOp,ho,Nk h1,Nk h2,eqGuard,binOp,run_equal_bool hu],.bool _⟩
      · obtain⟨q,rfl,hk⟩:=hk
        refine⟨_,hk,AY fun F σs σh g a w R hs _=>?_⟩
        obtain⟨h1,h2⟩:=hx F σs σh g a w R hs
        rw[hop]at h1
        rw[hop']at h2
        rw[Dn,IT]
        exact⟨.bool (!(b==b')),by simp[execOp,ho,Nk h1,Nk h2,eqGuard,binOp,run_equal_bool hu],.bool _⟩
      · exact hk.elim
    · exact hk.elim
  · rename_i id q hop hop'
    obtain⟨i,hi,hk⟩:=AZ.1 hk
    split at hk
    · rename_i e hdesc
      have hu:=(hti t i hi).1
      rw[hdesc]at hu
      have fin:∀F σs σh g a w,Ap C F σs σh g a w→(∀t,Operand.tmp t∈o.op.operands.toList→σs t=s t)→∃A,a.eval x= .pointer (some A)∧a.eval y= .pointer none:=by
        intro F σs σh g a w R hs
        obtain⟨h1,h2⟩:=hx F σs σh g a w R hs
        rw[hop]at h1
        rw[hop']at h2
        obtain⟨⟨b,hb⟩,h1⟩:=h1
        rw[hb]at h1
        exact⟨_,h1,h2⟩
      unfold J5 at hk
      split at hk
      · refine⟨_,hk,AY fun F σs σh g a w R hs _=>?_⟩
        obtain⟨A,h1,h2⟩:=fin F σs σh g a w R hs
        exact⟨.bool false,by simp[execOp,ho,h1,h2,eqGuard,binOp,D1 hu],.bool _⟩
      · refine⟨_,hk,AY fun F σs σh g a w R hs _=>?_⟩
        obtain⟨A,h1,h2⟩:=fin F σs σh g a w R hs
        exact⟨.bool true,by simp[execOp,ho,h1,h2,eqGuard,binOp,D1 hu],.bool _⟩
      · exact hk.elim
    · exact hk.elim
  · rename_i hop hop'
    obtain⟨i,hi,hk⟩:=AZ.1 hk
    split at hk
    · rename_i e hdesc
      have hu:=(hti t i hi).1
      rw[hdesc]at hu
      unfold J5 at hk
      split at hk
      · refine⟨_,hk,AY fun F σs σh g a w R hs _=>?_⟩
        obtain⟨h1,h2⟩:=hx F σs σh g a w R hs
        rw[hop]at h1
        rw[hop']at h2
        exact⟨.bool true,by simp[execOp,ho,show a.eval x=_ from h1,show a.eval y=_ from h2,eqGuard,binOp,D1 hu],.bool _⟩
      · refine⟨_,hk,AY fun F σs σh g a w R hs _=>?_⟩
        obtain⟨h1,h2⟩:=hx F σs σh g a w R hs
        rw[hop]at h1
        rw[hop']at h2
        exact⟨.bool false,by simp[execOp,ho,show a.eval x=_ from h1,show a.eval y=_ from h2,eqGuard,binOp,D1 hu],.bool _⟩
      · exact hk.elim
    · exact hk.elim
  · rename_i id hop hop'
    obtain⟨i,hi,hk⟩:=AZ.1 hk
    split at hk
    · rename_i kt e hdesc
      have hu:=(hti t i hi).1
      rw[hdesc]at hu
      have fin:∀F σs σh g a w,Ap C F σs σh g a w→(∀t,Operand.tmp t∈o.op.operands.toList→σs t=s t)→∃A,a.eval x= .map (some A)∧a.eval y= .map none:=by
        intro F σs σh g a w R hs
        obtain⟨h1,h2⟩:=hx F σs σh g a w R hs
        rw[hop]at h1
        rw[hop']at h2
        obtain⟨h1,b,hb⟩:=h1
        rw[hb]at h1
        exact⟨_,h1,h2⟩
      unfold J5 at hk
      split at hk
      · refine⟨_,hk,AY fun F σs σh g a w R hs _=>?_⟩
        obtain⟨A,h1,h2⟩:=fin F σs σh g a w R hs
        exact⟨.bool false,by simp[execOp,ho,h1,h2,eqGuard,binOp,D2 hu],.bool _⟩
      · refine⟨_,hk,AY fun F σs σh g a w R hs _=>?_⟩
        obtain⟨A,h1,h2⟩:=fin F σs σh g a w R hs
        exact⟨.bool true,by simp[execOp,ho,h1,h2,eqGuard,binOp,D2 hu],.bool _⟩
      · exact hk.elim
    · exact hk.elim
  · rename_i hop hop'
    obtain⟨i,hi,hk⟩:=AZ.1 hk
    split at hk
    · rename_i kt e hdesc
      have hu:=(hti t i hi).1
      rw[hdesc]at hu
      unfold J5 at hk
      split at hk
      · refine⟨_,hk,AY fun F σs σh g a w R hs _=>?_⟩
        obtain⟨h1,h2⟩:=hx F σs σh g a w R hs
        rw[hop]at h1
        rw[hop']at h2
        exact⟨.bool true,by simp[execOp,ho,show a.eval x=_ from h1,show a.eval y=_ from h2,eqGuard,binOp,D2 hu],.bool _⟩
      · refine⟨_,hk,AY fun F σs σh g a w R hs _=>?_⟩
        obtain⟨h1,h2⟩:=hx F σs σh g a w R hs
        rw[hop]at h1
        rw[hop']at h2
        exact⟨.bool false,by simp[execOp,ho,show a.eval x=_ from h1,show a.eval y=_ from h2,eqGuard,binOp,D2 hu],.bool _⟩
      · exact hk.elim
    · exact hk.elim
end
end Go.AM
namespace Go.AM
open Go Go.RowKit
section
variable {C:Cx}{F:Nat→Prop}{s:Af}{h:Heap}{g:Ac}{a:Act}{w:World}{ti:Types}
theorem Ry {x:AV}{K:Id→Kd→Bool→Nat→List D→Option (Nat×List CV)→Nat→Nat→Prop}(hk:Su x h K):
  ∃id kd ag sz rows foc kk o,h id=some (.tree kd ag sz rows foc)∧kd.isM=false∧kd.Jf=false∧K id kd ag sz rows foc kk o∧
   ∀{w:World} {Z:Av} {g:Ac} {σh:Heap} {u:Value},Db w C.X g σh→σh id=some (.tree kd ag sz rows foc)→BG w Z g σh x u→∃b,blk (gval (g id))=some b∧u= .pointer (some ⟨b,kk*sz+o,none⟩):=by
 unfold Su at hk
 split at hk
 ·rename_i id sz kk o
  split at hk
  ·rename_i kd ag sz' rows foc hi
   replace hk:=AR.1 hk
   obtain⟨h1,hk⟩:=hk
   replace hk:=AR.1 hk
   obtain⟨h2,hk⟩:=hk
   replace h1:=Nat.eq_of_beq_eq_true h1
   subst h1
   refine⟨id,kd,ag,sz',rows,foc,kk,o,hi,by cases kd<;>first | rfl | simp[QE]at h2,by cases kd<;>first | rfl | simp[QE]at h2,by assumption,fun _ hσ hr=>?_⟩
   obtain⟨_,_,h3⟩:=hr
   exact h3 (by rw[hσ];rfl)
  ·exact hk.elim
 ·rename_i id
  split at hk
  ·rename_i kd ag sz rows foc hi
   split at hk
   ·refine⟨id,_,ag,sz,rows,foc,0,0,hi,rfl,rfl,hk,fun RH hσ hr=>?_⟩
    obtain⟨_,_,h3⟩:=hr
    obtain⟨ht,h0,hf,xs,hx,_⟩:=RH.objs id _ hσ
    obtain⟨_,b,c,e,hv,_⟩:=hx
    refine⟨b,by rw[hv];rfl,?_⟩
    rw[h3 (by rw[hσ];rfl),hv]
    simp
   ·exact hk.elim
  ·exact hk.elim
 ·exact hk.elim
theorem Oq (hti:BV C.P ti) (h1:Bo ti) {t:TypeId}{i:TI}(hi:ti t=some i) (R:Ap C F s h g a w) {id:Id}{kd:Kd}{ag:Bool}{sz k:Nat}{rows:List D}{cs:List CV}
  (hid:h id=some (.tree kd ag sz rows (some (k,cs)))) (hkd:kd.isM=false) {b o:Nat} (hb:blk (gval (g id))=some b) (ho:o+i.size≤cs.length):
  ∃v,(Instr.loadAt t (.pointer (some ⟨b,k*sz+o,none⟩))).run C.P w= .ok v w∧BG w (BN (zone g h) C.X) g h (.v (V1.BL (Ax i.desc) ((cs.drop o).take i.size))) v:=by
 obtain⟨ht,h0,hf,xs,hx,hfoc,_⟩:=R.heap.objs id _ hid
 obtain⟨hk,hcs,hrel⟩:=hfoc k cs rfl
 have hl:=hx.len
 have hlt:k*sz+sz≤xs.length:=by
  have:=Nat.mul_le_mul_right sz (show k+1≤rows.length from hk)
  rw[Nat.add_mul]at this
  omega
 let vs:Array Value:=((xs.drop (k*sz+o)).take i.size).toArray
 have hvs:∀(j:Nat) u,vs[j]?=some u→xs[k*sz+(o+j)]?=some u∧j<i.size:=by
  intro j u hu
  simp only[vs,List.getElem?_toArray,List.getElem?_take]at hu
  split at hu
  ·rename_i hj
   rw[List.getElem?_drop]at hu
   exact⟨by rw[←hu];congr 1;omega,hj⟩
  ·cases hu
 have hsz:vs.size=i.size:=by simp[vs];omega
 obtain⟨v,hv,ha,hb'⟩:=DN (P:=C.P) (w:=w) (vs:=vs) (b:=b) (q:=k*sz+o) hti h1 hi hsz (fun j u hu=>by
  have:=hx.cell hkd hb (hvs j u hu).1
  rw[show k*sz+o+j=k*sz+(o+j)from by omega]
  exact this)
 refine⟨v,hv,?_⟩
 have:=BE.BL (w:=w) (Z:=BN (zone g h) C.X) (g:=g) (h:=h) (ag:=Ax i.desc) (cs:=(cs.drop o).take i.size) (vs:=vs) (by simp[hsz];omega) (fun j c u hc hu=>by
  rw[List.getElem?_take]at hc
  split at hc
  ·rw[List.getElem?_drop]at hc
   exact hrel (o+j) c u hc (hvs j u hu).1
  ·cases hc)
 cases hrow:Ax i.desc with
 | true=>rw[ha hrow];rw[hrow]at this;exact this.1 rfl
 | false=>rw[hrow]at this;exact this.2 rfl v (hb' hrow)
end
section
variable {C:Cx}{ti:Types}{o:Oper}{fresh:Nat}{s:Af}{h:Heap}{k:Out→Prop}
theorem QF {w:World}{Z:Av}{x:D}{v:Value}{S:Nat→Prop}(r:B9 w x v S) (hx:Nq x=true):Aj w Z x v:=by
 cases r with
 | int k n=>exact .int k n
 | bool b=>exact .bool b
 | str s=>exact .str s
 | nil=>exact .nil
 | con _ _ _ _ _ _ _ _ _ _ hcon=>cases x<;>first | (simp[Nq]at hx;done) | (simp[D.con]at hcon;done)
theorem Rz (hti:BV C.P ti) (h1:Bo ti) {t:TypeId}{i:TI}(hi:ti t=some i) {F:Nat→Prop}{g:Ac}{a:Act}{w:World}(R:Ap C F s h g a w) {id:Id}{kd:Kd}{ag:Bool}{sz k:Nat}{rows:List D}{r:D}
  (hid:h id=some (.tree kd ag sz rows none)) (hkd:kd.isM=false) (hkf:kd.Jf=false) (hr:rows[k]?=some r) {b o:Nat} (hb:blk (gval (g id))=some b) (ho:o+i.size≤r.cells.length) (hn:Ci Nq ((r.cells.drop o).take i.size)=true):
  ∃v,(Instr.loadAt t (.pointer (some ⟨b,k*sz+o,none⟩))).run C.P w= .ok v w∧BG w (BN (zone g h) C.X) g h (.v (V1.BL (Ax i.desc) (((r.cells.drop o).take i.size).map CV.d))) v:=by
 obtain⟨ht,h0,hf,xs,hx,hfoc,U,T,h2,_⟩:=R.heap.objs id _ hid
 have hat:∀(j:Nat) c,r.cells[j]?=some c→xs[k*sz+j]?=some (U k j)∧B9 w c (U k j) (T k j):=fun j c hc=>⟨(h2 k r j c (fun _ _ h=>by cases h) hr hc).1,(C0.own hkf).1 (h2 k r j c (fun _ _ h=>by cases h) hr hc).2⟩
 let vs:Array Value:=((List.range i.size).map (fun j=>U k (o+j))).toArray
 have hvs:∀(j:Nat) u,vs[j]?=some u→j<i.size∧u=U k (o+j):=by
  intro j u hu
  exact D0 hu
 obtain⟨v,hv,ha,hb'⟩:=DN (P:=C.P) (w:=w) (vs:=vs) (b:=b) (q:=k*sz+o) hti h1 hi (by simp[vs]) (fun j u hu=>by
  obtain⟨hj,rfl⟩:=hvs j u hu
  have hc:r.cells[o+j]?=some r.cells[o+j]:=by simp
  have:=hx.cell hkd hb (hat _ _ hc).1
  rw[show k*sz+o+j=k*sz+(o+j)from by omega]
  exact this)
 refine⟨v,hv,?_⟩
 have:=BE.BL (w:=w) (Z:=BN (zone g h) C.X) (g:=g) (h:=h) (ag:=Ax i.desc) (cs:=((r.cells.drop o).take i.size).map CV.d) (vs:=vs) (by simp[vs];omega) (fun j c u hc hu=>by
  obtain⟨hj,rfl⟩:=hvs j u hu
  simp only[List.getElem?_map,Option.map_eq_some_iff]at hc
  obtain⟨d,hd,rfl⟩:=hc
  have hnd:=Ba.1 hn d (List.mem_of_getElem? hd)
  rw[List.getElem?_take,if_pos hj,List.getElem?_drop]at hd
  exact⟨QF (hat _ _ hd).2 hnd,(hat _ _ hd).2.isAgg⟩)
 cases hrow:Ax i.desc with
 | true=>rw[ha hrow];rw[hrow]at this;exact this.1 rfl
 | false=>rw[hrow]at this;exact this.2 rfl v (hb' hrow)
theorem Sz (hti:BV C.P ti) (h1:Bo ti) (t:TypeId) (x:Operand) (ho:o.op= .load t x) (hk:Ol ti t (BQ ti s 0 x) fresh h k):∃out,k out∧Bm C o fresh s h out:=by
 obtain⟨gs,hk⟩:=hk
 refine EW hk (fun h' k' hk'=>?_)
 unfold loadT at hk'
 obtain⟨i,hi,hk'⟩:=AZ.1 hk'
 obtain⟨id,kd,ag,sz,rows,foc,kk,oo,hid,hkd,hkf,hk',hpl⟩:=Ry (C:=C) hk'
 have opx:∀{F:Nat→Prop} {σs:Af} {σh:Heap} {g:Ac} {a:Act} {w:World} (R:Ap C F σs σh g a w),(∀t,Operand.tmp t∈o.op.operands.toList→σs t=s t)→BG w (BN (zone g σh) C.X) g σh (BQ ti s 0 x) (a.eval x):=
  fun R hs=>Ai ti 0 x R (s:=s) (fun k hk=>hs k (by subst hk;simp[ho,Op.operands]))
 cases foc with
 | some p=>
  obtain⟨k0,cs⟩:=p
  obtain⟨rfl,hk'⟩:=hk'
  obtain⟨hle,hk'⟩:=AR.1 hk'
  refine⟨_,hk',AY fun F σs σh g a w R hs hrd=>?_⟩
  have hσ:=(hrd id (by simp)).trans hid
  obtain⟨b,hb,hu⟩:=hpl R.heap hσ (opx R hs)
  obtain⟨v,hv,hr⟩:=Oq hti h1 hi R hσ hkd hb (Nat.le_of_ble_eq_true hle)
  exact⟨v,by simp only[execOp,ho,hu];exact Bn hv,hr⟩
 | none=>
  obtain⟨r,hr,hk'⟩:=hk'
  obtain⟨hle,b,hk'⟩:=AR.1 hk'
  cases b with
  | true=>
   obtain⟨hn,hk'⟩:=AR.1 hk'
   refine⟨_,hk',AY fun F σs σh g a w R hs hrd=>?_⟩
   have hσ:=(hrd id (by simp)).trans hid
   obtain⟨b,hb,hu⟩:=hpl R.heap hσ (opx R hs)
   obtain⟨v,hv,hr⟩:=Rz hti h1 hi R hσ hkd hkf hr hb (Nat.le_of_ble_eq_true hle) hn
   exact⟨v,by simp only[execOp,ho,hu];exact Bn hv,hr⟩
  | false=>
   obtain⟨hn,hk'⟩:=AR.1 hk'
   refine⟨_,hk',?_⟩
   rintro F σs σh a w Q ⟨g,R⟩ hs hrd hF hd
   have hσ:=(hrd id (by simp)).trans hid
   obtain⟨b,hb,hu⟩:=hpl R.heap hσ (opx R hs)
   obtain⟨g',R',hgv⟩:=R.Yz hkf hσ hr hF (Nat.le_of_ble_eq_true hn)
   have hσ':BP (AX σh id (.tree kd ag sz rows (some (kk,Dr fresh 0 r.cells)))) (Dx fresh 0 r.cells) id=some (.tree kd ag sz rows (some (kk,Dr fresh 0 r.cells))):=by
    rcases HA (fresh:=fresh) (ds:=r.cells) (c:=0) (h:=AX σh id (.tree kd ag sz rows (some (kk,Dr fresh 0 r.cells)))) (x:=id)with⟨j,d,_,_,_,_,p1,p2,p3,_⟩ | ⟨_,p2⟩
    ·have hj:=(List.getElem?_eq_some_iff.1 p1).1
     have hn':=Nat.le_of_ble_eq_true hn
     have:=(R.free _ (hF (0+j) (by omega))).2
     rw[←p3,hσ]at this
     cases this
    ·rw[p2];simp[AX]
   obtain⟨v,hv,hrel⟩:=Oq hti h1 hi R' hσ' hkd (by rw[hgv];exact hb) (by rw[G9];exact Nat.le_of_ble_eq_true hle)
   unfold Oper.wp
   have hrun:(execOp a.eval o).run C.P w= .ok (.value v) w:=by simp only[execOp,ho,hu];exact Bn hv
   rw[hrun]
   exact⟨g',R'.put hd hrel⟩
theorem QG {P:Program}{w:World}{r:Nat}{m:Array MapEntry}{cl:Nat}(hh:w.heap[r]?=some (.map m cl)):(getObj r).run P w= .ok (.map m cl) w:=by
 simp[getObj,Sem.run,hh]
theorem Holds.row {w:World}{sz:Nat}{v:Value}{n:Nat}{xs:List Value}(h:Holds w .row sz v n xs):∃A cap,v= .slice A n cap∧n≤cap∧cap≤maxLen∧(0<n→∃b,A=some ⟨b,0,none⟩):=by
 obtain⟨e,h1,h2⟩:=h
 rcases h2 with⟨hv,hn⟩ | ⟨q,cap,cur,hv,hg,hh,hnc,hcm,hcs,htake⟩
 ·exact⟨none,0,by rw[hv,hn],by omega,Nat.zero_le _,fun h=>by omega⟩
 ·exact⟨_,cap,hv,hnc,hcm,fun _=>⟨q,rfl⟩⟩
theorem R5 (hti:BV C.P ti) (t:TypeId) (x y:Operand) (ho:o.op= .indexAddr t x y) (hk:Jq C.M ti t (BQ ti s t x) (BQ ti s 3 y) h k):∃out,k out∧Bm C o fresh s h out:=by
 unfold Jq at hk
 obtain⟨q,n,hyv,hk⟩:=DI.1 hk
 obtain⟨i,hi,hk⟩:=AZ.1 hk
 split at hk
 ·rename_i e hdesc
  obtain⟨j,hj,hk⟩:=AZ.1 hk
  split at hk
  ·rename_i id hop
   split at hk
   ·rename_i kd ag sz rows foc hid
    split at hk
    ·obtain⟨hsz,hlk,hk⟩:=AR.1 hk
     obtain⟨h0,hlt⟩:=(C.M.lock_iff _).1 hlk
     have hsz:=Nat.eq_of_beq_eq_true hsz
     refine⟨_,hk,AY fun F σs σh g a w R hs hrd=>?_⟩
     have hσ:=(hrd id (by simp)).trans hid
     have hv:=Ai ti t x R (s:=s) (fun k hk=>hs k (by subst hk;simp[ho,Op.operands]))
     have hn:=Ai ti 3 y R (s:=s) (fun k hk=>hs k (by subst hk;simp[ho,Op.operands]))
     rw[hyv]at hn
     have hn:=GF hn
     rw[hop]at hv
     have hv:=hv.2.2 (by rw[hσ];rfl)
     obtain⟨ht,h0',hf,xs,hx,_⟩:=R.heap.objs id _ hσ
     obtain⟨A,cap,hg,hcap,hmax,hA⟩:=hx.row
     obtain⟨b,rfl⟩:=hA (by omega)
     rw[hg]at hv
     refine⟨.pointer (some ⟨b,n.toNat*sz,none⟩),?_,rfl,ht,fun _=>⟨b,by rw[hg];rfl,by simp⟩⟩
     have h1:=DB hti hi w
     rw[hdesc]at h1
     have h2:=Fh hti hj w
     have h3:0≤n∧n<(rows.length:Int):=by omega
     simp only[execOp,ho]
     refine Bn ?_
     simp[Instr.indexAt,asIntOf,h1,h2,hv,hn,h3,Bz,Instr.sureAddr,hsz]
    ·exact hk.elim
   ·exact hk.elim
  ·exact hk.elim
 ·exact hk.elim
theorem U0 (hti:BV C.P ti) (t:TypeId) (x:Operand) (ho:o.op= .call {callee:=.builtin .len,args:=#[x],argTypes:=#[t]}) (hk:Nr C.M ti t (BQ ti s t x) h k):∃out,k out∧Bm C o fresh s h out:=by
 unfold Nr at hk
 obtain⟨i,hi,hk⟩:=AZ.1 hk
 split at hk
 ·rename_i id hop
  split at hk
  ·rename_i kd ag sz rows foc hid
   have opx:∀{F:Nat→Prop} {σs:Af} {σh:Heap} {g:Ac} {a:Act} {w:World} (R:Ap C F σs σh g a w),(∀t,Operand.tmp t∈o.op.operands.toList→σs t=s t)→σh id=h id→
     ∃xs,Holds w kd sz (a.eval x) rows.length xs:=by
    intro F σs σh g a w R hs hrd
    have hσ:=hrd.trans hid
    have hv:=Ai ti t x R (s:=s) (fun k hk=>hs k (by subst hk;simp[ho,Op.operands,Call.operands]))
    rw[hop]at hv
    obtain⟨ht,h0',hf,xs,hx,_⟩:=R.heap.objs id _ hσ
    rw[hv.2.2 (by rw[hσ];rfl)]
    exact⟨xs,hx⟩
   split at hk
   ·split at hk
    ·rename_i e hdesc
     obtain⟨z,hz,hk⟩:=hk
     refine⟨_,hk,AY fun F σs σh g a w R hs hrd=>?_⟩
     obtain⟨xs,hx⟩:=opx R hs (hrd id (by simp))
     obtain⟨A,cap,hv,_⟩:=hx.row
     rw[←hz,C.M.lenI_eq]
     refine⟨.int .i64 rows.length,?_,.int _ _⟩
     have h1:=DB hti hi w
     rw[hdesc]at h1
     simp[execOp,ho,resolve,invoke,builtin,Builtin.len_,h1,hv,goInt]
    ·exact hk.elim
   ·split at hk
    ·rename_i kt et hdesc
     obtain⟨z,hz,hk⟩:=hk
     refine⟨_,hk,AY fun F σs σh g a w R hs hrd=>?_⟩
     obtain⟨xs,r,m,cl,hv,hh,hn,_⟩:=opx R hs (hrd id (by simp))
     rw[←hz,C.M.lenI_eq]
     refine⟨.int .i64 rows.length,?_,.int _ _⟩
     have h1:=DB hti hi w
     rw[hdesc]at h1
     simp[execOp,ho,resolve,invoke,builtin,Builtin.len_,h1,hv,goInt,QG hh,hn]
    ·exact hk.elim
   ·exact hk.elim
  ·exact hk.elim
 ·exact hk.elim
end
end Go.AM
namespace Go.AM
open Go Go.RowKit
theorem DC {l:List (Id×AQ)}{i:Id}:∀{h:Heap},i∉l.map (·.1)→BP h l i=h i:=by
 induction l with
 | nil=>intro h _;rfl
 | cons x l ih=>
  intro h hi
  simp only[List.map_cons,List.mem_cons,not_or]at hi
  show BP (AX h x.1 x.2) l i=_
  rw[ih hi.2]
  simp[AX,hi.1]
theorem Q9 {l:List (Id×AQ)}{i:Id}{o:AQ}:∀{h:Heap},(l.map (·.1)).Nodup→(i,o)∈l→BP h l i=some o:=by
 induction l with
 | nil=>intro h _ hi;simp at hi
 | cons x l ih=>
  intro h hn hi
  simp only[List.map_cons,List.nodup_cons]at hn
  show BP (AX h x.1 x.2) l i=_
  rcases List.mem_cons.1 hi with rfl | hi
  ·rw[DC hn.1]
   simp[AX]
  ·exact ih hn.2 hi
theorem Ot {r:Id→Id}:∀{m:List Id}{post:List AQ},m.length=post.length→(Ni m r post).map (·.1)=m
 | [],[],_=>rfl
 | i::m,o::post,h=>by simp[Ni,Ot (m:=m) (post:=post) (by simpa using h)]
theorem RA {r:Id→Id}:∀{m:List Id}{post:List AQ}{j:Nat}{i:Id}{o:AQ},m[j]?=some i→post[j]?=some o→(i,o.BW r)∈Ni m r post
 | i::m,o::post,0,_,_,h1,h2=>by simp at h1 h2;subst h1;subst h2;simp[Ni]
 | i::m,o::post,j+1,i',o',h1,h2=>by
  simp at h1 h2
  simp only[Ni,List.mem_cons]
  exact .inr (RA h1 h2)
theorem LC {r:Id→Id}{fresh:Nat}:∀{new:List AQ}{k:Nat},(DM fresh r k new).map (·.1)=(List.range' k new.length).map (fun n=>Id.loc (fresh+n))
 | [],k=>rfl
 | o::new,k=>by simp[DM,LC (new:=new) (k:=k+1),List.range'_succ]
theorem NA {r:Id→Id}{fresh:Nat}:∀{new:List AQ}{k j:Nat}{o:AQ},new[j]?=some o→(Id.loc (fresh+(k+j)),o.BW r)∈DM fresh r k new
 | o::new,k,0,_,h=>by simp at h;subst h;simp[DM]
 | o::new,k,j+1,o',h=>by
  simp at h
  have:=NA (r:=r) (fresh:=fresh) (k:=k+1) h
  simp only[DM,List.mem_cons]
  exact .inr (by rw[show k+(j+1)=k+1+j from by omega];exact this)
theorem DP:∀{pre post:List AQ}{j:Nat}{o:AQ},CF pre post→post[j]?=some o→∃o0,pre[j]?=some o0∧sameKind o0 o
 | a::pre,b::post,0,o,h,hj=>by simp at hj;subst hj;exact⟨a,rfl,h.1⟩
 | a::pre,b::post,j+1,o,h,hj=>by
  simp at hj
  obtain⟨o0,h1,h2⟩:=DP (j:=j) h.2 hj
  exact⟨o0,by simpa using h1,h2⟩
 | [],[],j,o,h,hj=>by simp at hj
theorem Du:∀{pre post:List AQ},CF pre post→post.length=pre.length
 | [],[],_=>rfl
 | _::_,_::_,h=>by simp[Du h.2]
theorem IU {a b:AQ}(h:sameKind a b) (k:isLive (some b)=true):isLive (some a)=true:=by
 cases b<;>simp[isLive]at k<;>cases a<;>simp[sameKind]at h<;>rfl
theorem Ou {a:Option Addr}(h:isTu (.pointer a)):False:=by obtain⟨_,_,h,_⟩:=h;cases h
theorem Ov {a:Option Nat}(h:isTu (.map a)):False:=by obtain⟨_,_,h,_⟩:=h;cases h
theorem Ce.eq {u v:Value}(h:Ce u v) (k:¬isTu u):v=u:=by
 rcases h with h | h
 ·exact h
 ·exact absurd h.1 k
theorem Ce.gval {u v:Value}(h:Ce u v):gval v=gval u:=by
 rcases h with rfl | h
 ·rfl
 ·exact h.2.2
theorem Ce.isTu {u v:Value}(h:Ce u v) (k:isTu u):isTu v:=by
 rcases h with rfl | h
 ·exact k
 ·exact h.2.1
theorem HC {C:Cx}{F:Nat→Prop}{σs:Af}{σh:Heap}{g:Ac}{a:Act}{w:World}{fresh:Nat}
  {m:List Id} {targs:List V1} {pre:List AQ} {Qp:AV→List AQ→List AQ→Prop} {vals:Array Value} {dst:Option Tmp} {Q:Exit→Act→World→Prop} {Run:(Ending→World→Prop)→Prop}
  (R:Ap C F σs σh g a w) (hmono:∀{p q:Ending→World→Prop},(∀e w,p e w→q e w)→Run p→Run q)
  (hrun:∀X g1,(∀i,g1 i=g (Bh m fresh i))→(∀b o,X b o→b<w.heap.size)→C.M.I.at w (BN (zone g1 (BD pre)) X)→Db w X g1 (BD pre)→(∀n,g1 (.loc n)=undef)→
   (∀(j:Nat) x v,targs[j]?=some x→vals[j]?=some v→BE w (BN (zone g1 (BD pre)) X) g1 (BD pre) x v)→
   Run fun e w'=>∃v g' res post new,Qp res post new∧e= .returned v∧E1 w X g1 pre res post new v w' g')
  (hlen:m.length=pre.length) (hnd:m.Nodup)
  (hpre:∀(j:Nat) i o,m[j]?=some i→pre[j]?=some o→σh i=some (o.BW (Bh m fresh))) (hQp:∀res post new,Qp res post new→CF pre post∧new.length≤31)
  (hF:∀k,k<32→F (fresh+k)) (hd:∀d,dst=some d→d<C.nt)
  (hargs:∀(j:Nat) x v,(targs.map (V1.BW (Bh m fresh)))[j]?=some x→vals[j]?=some v→BE w (BN (zone g σh) C.X) g σh x v):
  Run fun
   | .returned v,w''=>∃res post new,Qp res post new∧∃g2,(∀i q,g i= .map (some q)→g2 i=g i)∧Ap C (fun n=>F n∧¬(fresh≤n∧n<fresh+32)) (DY σs dst (res.BW (Bh m fresh))) (BP σh (Ni m (Bh m fresh) post++DM fresh (Bh m fresh) 0 new)) g2 (a.put dst v) w''
   | .panicked chain,w''=>Q (.panic chain) a w''
   | .outgrown,_=>LetsOut Q:=by
 let r:=Bh m fresh
 have hr:r=Bh m fresh:=rfl
 let gc:Ac:=fun i=>g (r i)
 let hc:Heap:=BD pre
 let Xc:Av:=fun b o=>C.X b o∨∃i ob,σh i=some ob∧i∉m∧Bg (g i) ob b o
 have rin:∀j i,m[j]?=some i→r (.ext j)=i:=fun j i hj=>by simp[hr,Bh,hj]
 have rout:∀j,m[j]?=none→r (.ext j)= .loc (fresh+31):=fun j hj=>by simp[hr,Bh,hj]
 have rloc:∀k,k<31→r (.loc k)= .loc (fresh+k):=fun k hk=>by simp[hr,Bh,hk]
 have rloc7:∀k,31≤k→r (.loc k)= .loc (fresh+31):=fun k hk=>by simp[hr,Bh,show ¬k<31 from by omega]
 have free:∀k,k<32→g (.loc (fresh+k))=undef∧σh (.loc (fresh+k))=none:=fun k hk=>R.free _ (hF k hk)
 have gcl:∀n,gc (.loc n)=undef:=by
  intro n
  by_cases hn:n<31
  ·show g (r (.loc n))=_
   rw[rloc n hn];exact (free n (by omega)).1
  ·show g (r (.loc n))=_
   rw[rloc7 n (by omega)];exact (free 31 (by omega)).1
 have hcs:∀i o,hc i=some o→∃j,i= .ext j∧m[j]?=some (r i)∧pre[j]?=some o∧σh (r i)=some (o.BW r):=by
  intro i o hi
  cases i with
  | loc n=>simp[hc,BD]at hi
  | ext j=>
   have hi':pre[j]?=some o:=hi
   have hlt:j<m.length:=by rw[hlen];exact (List.getElem?_eq_some_iff.1 hi').1
   have hm:m[j]?=some m[j]:=by simp[hlt]
   exact⟨j,rfl,by rw[rin j _ hm];exact hm,hi',by rw[rin j _ hm];exact hpre j _ o hm hi'⟩
 have hzc:∀b o,zone gc hc b o→zone g σh b o:=by
  rintro b o ⟨i,ob,hi,h1⟩
  obtain⟨j,rfl,hm,_,hs⟩:=hcs i ob hi
  exact⟨_,_,hs,CX.2 h1⟩
 have hz:∀b o,BN (zone gc hc) Xc b o→BN (zone g σh) C.X b o:=by
  rintro b o (h1 | h1 | ⟨i,ob,hi,_,h1⟩)
  ·exact .inl (hzc b o h1)
  ·exact .inr h1
  ·exact .inl ⟨i,ob,hi,h1⟩
 have htok:∀i n sz e,hc i=some (.tok n sz e)→σh (r i)=some (.tok n sz e):=by
  intro i n sz e hi
  obtain⟨j,rfl,hm,_,hs⟩:=hcs i _ hi
  exact hs
 have hown:∀i,isLive (hc i)=true→isLive (σh (r i))=true:=by
  intro i hi
  cases ho:hc i with
  | none=>rw[ho]at hi;cases hi
  | some o=>
   obtain⟨j,rfl,hm,_,hs⟩:=hcs i _ ho
   rw[hs]
   rw[ho]at hi
   exact C9.trans hi
 have hXlt:∀b o,Xc b o→b<w.heap.size:=by
  rintro b o (h1 | ⟨i,ob,hi,_,h1⟩)
  ·exact Nat.lt_of_lt_of_le (R.xs b o h1) R.frame.size
  ·exact (R.heap.objs i ob hi).lt h1.G4
 have RH:Db w Xc gc hc:=by
  refine⟨fun i o hi=>?_,fun i i' oi oi' b hi hi' bi bi'=>?_,fun i oi b o hi bi hx=>?_⟩
  ·obtain⟨j,rfl,hm,_,hs⟩:=hcs i o hi
   exact Bd.pull (r:=r) hz (fun _=>rfl) htok hown (R.heap.objs _ _ hs)
  ·obtain⟨j,rfl,hm,_,hs⟩:=hcs i oi hi
   obtain⟨j',rfl,hm',_,hs'⟩:=hcs i' oi' hi'
   have e:=R.heap.sep _ _ _ _ b hs hs' (Cp.2 bi) (Cp.2 bi')
   rw[e]at hm
   have:=(List.getElem?_inj (List.getElem?_eq_some_iff.1 hm).1 hnd).1 (hm.trans hm'.symm)
   rw[this]
  ·obtain⟨j,rfl,hm,_,hs⟩:=hcs i oi hi
   rcases hx with hx | ⟨i',ob,hi',hni,h1⟩
   ·exact R.heap.apart _ _ b o hs (Cp.2 bi) hx
   ·have e:=R.heap.sep _ _ _ _ b hs hi' (Cp.2 bi) h1.G4
    exact hni (e▸List.mem_of_getElem? hm)
 refine hmono ?_ (hrun Xc gc (fun _=>rfl) hXlt (R.inv.mono hz) RH gcl (fun j x v hx hv=>?_))
 rotate_left
 ·exact BE.pull (r:=r) hz (fun _=>rfl) htok hown (hargs j (x.BW r) v (by simp[hx,hr]) hv)
 rintro e w' ⟨v,g',res,post,new,hqp,rfl,CP⟩
 obtain⟨hk,hnew⟩:=hQp res post new hqp
 refine⟨res,post,new,hqp,?_⟩
 -- the new ghost, the new heap
 have pick:∀i,i∈m→∃j,m[j]?=some i:=fun i hi=>List.mem_iff_getElem?.1 hi
 let g2:Ac:=fun i=>if hi:i∈m then g' (.ext (Classical.choose (pick i hi)))else match i with
  | .loc n=>if fresh≤n∧n<fresh+32 then g' (.loc (n - fresh))else g i
  | .ext j=>g (.ext j)
 let hc2:Heap:=Bf post new
 let h2:Heap:=BP σh (Ni m (Bh m fresh) post++DM fresh (Bh m fresh) 0 new)
 have mlive:∀i,i∈m→σh i≠none:=by
  intro i hi
  obtain⟨j,hj⟩:=List.mem_iff_getElem?.1 hi
  have hlt:j<pre.length:=by rw[←hlen];exact (List.getElem?_eq_some_iff.1 hj).1
  rw[hpre j i pre[j] hj (by simp[hlt])]
  simp
 have mfresh:∀k,k<32→Id.loc (fresh+k)∉m:=fun k hk hm=>mlive _ hm (free k hk).2
 have plen:post.length=pre.length:=Du hk
 have keys:((Ni m (Bh m fresh) post++DM fresh (Bh m fresh) 0 new).map (·.1))=m++(List.range' 0 new.length).map (fun n=>Id.loc (fresh+n)):=by
  rw[List.map_append,Ot (by omega),LC]
 have knd:((Ni m (Bh m fresh) post++DM fresh (Bh m fresh) 0 new).map (·.1)).Nodup:=by
  rw[keys]
  refine List.nodup_append.2 ⟨hnd,?_,?_⟩
  ·refine List.Pairwise.map _ (fun x y (hxy:x≠y) he=>hxy ?_) (List.nodup_range' (s:=0) (n:=new.length))
   simp at he
   omega
  ·intro x hx y hy he
   subst he
   simp only[List.mem_map,List.mem_range'_1]at hy
   obtain⟨n,hn,rfl⟩:=hy
   exact mfresh n (by omega) hx
 have h2m:∀(j:Nat) (i:Id) (o:AQ),m[j]?=some i→post[j]?=some o→h2 i=some (o.BW r):=fun j i o h1 h3=>Q9 knd (List.mem_append.2 (.inl (RA h1 h3)))
 have h2n:∀(k:Nat) (o:AQ),new[k]?=some o→h2 (.loc (fresh+k))=some (o.BW r):=fun k o h1=>Q9 knd (List.mem_append.2 (.inr (by simpa using NA (k:=0) h1)))
 have h2o:∀i,i∉m→(∀k,k<new.length→i≠ .loc (fresh+k))→h2 i=σh i:=by
  intro i h1 h3
  refine DC ?_
  rw[keys]
  simp only[List.mem_append,List.mem_map,List.mem_range'_1,not_or,not_exists,not_and]
  exact⟨h1,fun k hk e=>h3 k (by omega) e.symm⟩
 have g2m:∀(j:Nat) i,m[j]?=some i→g2 i=g' (.ext j):=by
  intro j i hj
  have hi:=List.mem_of_getElem? hj
  show (if hi:i∈m then g' (.ext (Classical.choose (pick i hi)))else _)=_
  rw[dif_pos hi]
  have h1:=Classical.choose_spec (pick i hi)
  rw[(List.getElem?_inj (List.getElem?_eq_some_iff.1 h1).1 hnd).1 (h1.trans hj.symm)]
 have g2s:∀i,i∈m→Ce (g i) (g2 i):=by
  intro i hi
  obtain⟨j,hj⟩:=pick i hi
  rw[g2m j i hj]
  have:=CP.ext j
  rw[show gc (.ext j)=g i from by show g (r (.ext j))=_;rw[rin j i hj]]at this
  exact this
 have g2f:∀k,k<32→g2 (.loc (fresh+k))=g' (.loc k):=by
  intro k hk
  show (if hi:Id.loc (fresh+k)∈m then g' (.ext (Classical.choose (pick _ hi)))else _)=_
  rw[dif_neg (mfresh k hk)]
  show (if _ then _ else _)=_
  rw[if_pos (by omega),show fresh+k - fresh=k from by omega]
 have g2o':∀i,i∉m→(∀k,k<32→i≠ .loc (fresh+k))→g2 i=g i:=by
  intro i him hi
  show (if hi:i∈m then g' (.ext (Classical.choose (pick i hi)))else _)=_
  rw[dif_neg him]
  cases i with
  | ext j=>rfl
  | loc n=>
   show (if _ then _ else _)=_
   rw[if_neg]
   rintro⟨h1,h3⟩
   exact hi (n - fresh) (by omega) (by congr 1;omega)
 have g2o:∀i,¬isTu (g i)→(∀k,k<32→i≠ .loc (fresh+k))→g2 i=g i:=by
  intro i ht hi
  by_cases him:i∈m
  ·exact (g2s i him).eq ht
  ·exact g2o' i him hi
 have g2t:∀i,(∀k,k<32→i≠ .loc (fresh+k))→Ce (g i) (g2 i):=by
  intro i hi
  by_cases him:i∈m
  ·exact g2s i him
  ·rw[g2o' i him hi];exact .refl _
 have hg2:∀i,g' i=g2 (r i):=by
  intro i
  cases i with
  | ext j=>
   cases hj:m[j]? with
   | some i=>rw[rin j i hj,g2m j i hj]
   | none=>
    have hu:gc (.ext j)=undef:=by show g (r (.ext j))=_;rw[rout j hj,(free 31 (by omega)).1]
    have h1:=CP.ext j
    rw[hu]at h1
    rw[h1.eq Be,rout j hj,g2f 31 (by omega),CP.none 31 hnew]
  | loc k=>
   by_cases hk:k<31
   ·rw[rloc k hk,g2f k (by omega)]
   ·rw[rloc7 k (by omega),g2f 31 (by omega),CP.none k (by omega),CP.none 31 hnew]
 have ht2:∀i n sz e,h2 (r i)=some (.tok n sz e)→hc2 i=some (.tok n sz e):=by
  intro i n sz e hi
  have tr:∀o:AQ,some (o.BW r)=some (.tok n sz e)→o= .tok n sz e:=by
   intro o ho
   cases o<;>simp[AQ.BW]at ho
   obtain⟨rfl,rfl,rfl⟩:=ho;rfl
  cases i with
  | ext j=>
   cases hj:m[j]? with
   | some i=>
    rw[rin j i hj]at hi
    have hlt:j<post.length:=by rw[plen,←hlen];exact (List.getElem?_eq_some_iff.1 hj).1
    rw[h2m j i post[j] hj (by simp[hlt])]at hi
    show post[j]?=_
    rw[←tr _ hi];simp[hlt]
   | none=>
    rw[rout j hj,h2o _ (mfresh 31 (by omega)) (fun k hk=>by simp;omega),(free 31 (by omega)).2]at hi
    simp at hi
  | loc k=>
   by_cases hk:k<new.length
   ·rw[rloc k (by omega),h2n k new[k] (by simp[hk])]at hi
    show new[k]?=_
    rw[←tr _ hi];simp[hk]
   ·exfalso
    by_cases hk7:k<31
    ·rw[rloc k hk7,h2o _ (mfresh k (by omega)) (fun k' hk'=>by simp;omega),(free k (by omega)).2]at hi
     simp at hi
    ·rw[rloc7 k (by omega),h2o _ (mfresh 31 (by omega)) (fun k' hk'=>by simp;omega),(free 31 (by omega)).2]at hi
     simp at hi
 have hw2:∀i,isLive (h2 (r i))=true→isLive (hc2 i)=true:=by
  intro i hi
  cases i with
  | ext j=>
   cases hj:m[j]? with
   | some i=>
    rw[rin j i hj]at hi
    have hlt:j<post.length:=by rw[plen,←hlen];exact (List.getElem?_eq_some_iff.1 hj).1
    rw[h2m j i post[j] hj (by simp[hlt])]at hi
    show isLive post[j]?=_
    have:=C9.symm.trans hi
    simpa [hlt] using this
   | none=>
    rw[rout j hj,h2o _ (mfresh 31 (by omega)) (fun k hk=>by simp;omega),(free 31 (by omega)).2]at hi
    simp[isLive]at hi
  | loc k=>
   by_cases hk:k<new.length
   ·rw[rloc k (by omega),h2n k new[k] (by simp[hk])]at hi
    show isLive new[k]?=_
    have:=C9.symm.trans hi
    simpa [hk] using this
   ·exfalso
    by_cases hk7:k<31
    ·rw[rloc k hk7,h2o _ (mfresh k (by omega)) (fun k' hk'=>by simp;omega),(free k (by omega)).2]at hi
     simp[isLive]at hi
    ·rw[rloc7 k (by omega),h2o _ (mfresh 31 (by omega)) (fun k' hk'=>by simp;omega),(free 31 (by omega)).2]at hi
     simp[isLive]at hi
 -- where an object of the new heap comes from
 have cases2:∀(i:Id) (o:AQ),h2 i=some o→(∃(j:Nat) (o':AQ),m[j]?=some i∧post[j]?=some o'∧o=o'.BW r)∨(∃(k:Nat) (o':AQ),k<31∧i= .loc (fresh+k)∧new[k]?=some o'∧o=o'.BW r)∨
   (i∉m∧(∀k,k<32→i≠ .loc (fresh+k))∧σh i=some o):=by
  intro i o hi
  by_cases him:i∈m
  ·obtain⟨j,hj⟩:=List.mem_iff_getElem?.1 him
   have hlt:j<post.length:=by rw[plen,←hlen];exact (List.getElem?_eq_some_iff.1 hj).1
   rw[h2m j i post[j] hj (by simp[hlt])]at hi
   exact .inl ⟨j,post[j],hj,by simp[hlt],by simpa using hi.symm⟩
  ·by_cases hn:∃k,k<new.length∧i= .loc (fresh+k)
   ·obtain⟨k,hk,rfl⟩:=hn
    rw[h2n k new[k] (by simp[hk])]at hi
    exact .inr (.inl ⟨k,new[k],by omega,rfl,by simp[hk],by simpa using hi.symm⟩)
   ·rw[h2o i him (fun k hk e=>hn ⟨k,hk,e⟩)]at hi
    refine .inr (.inr ⟨him,fun k hk e=>?_,hi⟩)
    rw[e,(free k hk).2]at hi
    simp at hi
 have hcj:∀(j:Nat) (o':AQ),post[j]?=some o'→hc2 (.ext j)=some o':=fun j o' h1=>h1
 have hck:∀(k:Nat) (o':AQ),new[k]?=some o'→hc2 (.loc k)=some o':=fun k o' h1=>h1
 have hz2:∀b o,BN (zone g2 h2) C.X b o→BN (zone g' hc2) Xc b o:=by
  rintro b o (⟨i,ob,hi,h1⟩ | h1)
  ·rcases cases2 i ob hi with⟨j,o',hj,hp,rfl⟩ | ⟨k,o',hk7,rfl,hp,rfl⟩ | ⟨h3,h4,h5⟩
   ·refine .inl ⟨.ext j,o',hcj j o' hp,?_⟩
    rw[hg2,rin j i hj]
    exact CX.1 h1
   ·refine .inl ⟨.loc k,o',hck k o' hp,?_⟩
    rw[hg2,rloc k hk7]
    exact CX.1 h1
   ·rw[g2o' i h3 h4]at h1
    exact .inr (.inr ⟨i,ob,h5,h3,h1⟩)
  ·exact .inr (.inl h1)
 have hz2':∀b o u,w'.cell? ⟨b,o,none⟩=some u→¬BN (zone g' hc2) Xc b o→¬BN (zone g2 h2) C.X b o:=fun b o _ _ hn hy=>hn (hz2 b o hy)
 -- the places of what the call leaves: those of its objects, and new ones
 have turned:∀(i:Id) (ob:AQ) b o,(i∈m∨∃k,k<32∧i= .loc (fresh+k))→h2 i=some ob→Bg (g2 i) ob b o→(∃j o0,j∈m∧σh j=some o0∧Bg (g j) o0 b o)∨w.heap.size≤b:=by
  intro i ob b o ti hi h1
  have main:∀i0 o',hc2 i0=some o'→Bg (g' i0) o' b o→(∃j o0,j∈m∧σh j=some o0∧Bg (g j) o0 b o)∨w.heap.size≤b:=by
   intro i0 o' h3 h4
   rcases CP.within i0 o' b o h3 h4 with⟨i1,o1,h5,h6⟩ | h5
   ·obtain⟨j,rfl,hm,_,hs⟩:=hcs i1 o1 h5
    exact .inl ⟨_,_,List.mem_of_getElem? hm,hs,CX.2 h6⟩
   ·exact .inr h5
  rcases cases2 i ob hi with⟨j,o',hj,hp,rfl⟩ | ⟨k,o',hk7,rfl,hp,rfl⟩ | ⟨h3,h4,_⟩
  ·rw[g2m j i hj]at h1
   exact main (.ext j) o' (hcj j o' hp) (CX.1 h1)
  ·rw[g2f k (by omega)]at h1
   exact main (.loc k) o' (hck k o' hp) (CX.1 h1)
  ·rcases ti with ti | ⟨k,hk,rfl⟩
   ·exact absurd ti h3
   ·exact absurd rfl (h4 k hk)
 have E:IM w (BN (zone g σh) C.X) g σh w' (BN (zone g2 h2) C.X) g2 h2:=by
  have nofree:∀i,g i≠undef→∀k,k<32→i≠ .loc (fresh+k):=by
   rintro i hi k hk rfl
   exact hi (free k hk).1
  have owfree:∀i,isTu (g i)→∀k,k<32→i≠ .loc (fresh+k):=fun i hi=>nofree i (fun e=>Be (e▸hi))
  have slfree:∀i,GB (g i)→∀k,k<32→i≠ .loc (fresh+k):=fun i hi=>nofree i (fun e=>by rw[e]at hi;exact hi)
  refine⟨fun b o u hu hn=>⟨CP.frame.cell b o u hu (fun hy=>hn (.inl (hzc b o hy))),?_⟩,fun i b hb=>?_,fun i q hq=>?_,fun i hi=>?_,fun i n sz e hi hn=>?_,fun i hi=>?_,fun i hi hn=>?_⟩
  ·rintro (⟨i,ob,hi,h1⟩ | h1)
   ·by_cases ti:i∈m∨∃k,k<32∧i= .loc (fresh+k)
    ·rcases turned i ob b o ti hi h1 with⟨j,o0,_,h3,h4⟩ | h3
     ·exact hn (.inl ⟨j,o0,h3,h4⟩)
     ·have:=World.block_lt_of_cell? w ⟨b,o,none⟩ hu
      simp at this
      omega
    ·simp only[not_or,not_exists,not_and]at ti
     rw[g2o' i ti.1 ti.2]at h1
     rw[h2o i ti.1 (fun k hk=>ti.2 k (by omega))]at hi
     exact hn (.inl ⟨i,ob,hi,h1⟩)
   ·exact hn (.inr h1)
  ·exact g2o i (fun ht=>Ou (hb▸ht)) (nofree i (by rw[hb];simp[undef]))
  ·exact g2o i (fun ht=>Ov (hq▸ht)) (nofree i (by rw[hq];simp[undef]))
  ·rw[g2o i (Dm hi) (slfree i hi)]
   exact hi
  ·have hgi:=g2o i (Dm hi) (slfree i hi)
   rcases cases2 i _ hn with⟨j,o',hj,hp,ho⟩ | ⟨k,o',hk7,rfl,hp,ho⟩ | ⟨h3,h4,h5⟩
   ·obtain⟨o0,h6,h7⟩:=DP hk hp
    have:=hpre j i o0 hj h6
    cases o'<;>simp[AQ.BW]at ho
    obtain⟨rfl,rfl,rfl⟩:=ho
    cases o0<;>simp[sameKind]at h7
    obtain⟨rfl,rfl,rfl⟩:=h7
    exact⟨_,Nat.le_refl _,this,fun _=>hgi⟩
   ·exact absurd rfl (slfree _ hi k (by omega))
   ·exact⟨n,Nat.le_refl _,h5,fun _=>hgi⟩
  ·exact (g2t i (owfree i hi)).isTu hi
  ·refine⟨?_,(g2t i (owfree i hi)).gval⟩
   cases ho:h2 i with
   | none=>rw[ho]at hn;cases hn
   | some ob=>
    rw[ho]at hn
    rcases cases2 i ob ho with⟨j,o',hj,hp,rfl⟩ | ⟨k,o',hk7,rfl,hp,rfl⟩ | ⟨h3,h4,h5⟩
    ·obtain⟨o0,h6,h7⟩:=DP hk hp
     rw[hpre j i o0 hj h6]
     exact C9.trans (IU h7 (C9.symm.trans hn))
    ·exact absurd rfl (owfree _ hi k (by omega))
    ·rw[h5];exact hn
 have R2:Ap C (fun n=>F n∧¬(fresh≤n∧n<fresh+32)) σs h2 g2 a w':=by
  refine R.step (fun i=>i∈m∨∃k,k<32∧i= .loc (fresh+k)) E (CP.frame.weaken hzc) ?_ ?_ ?_ ?_ ?_ ?_ ?_
  ·intro i hi
   simp only[not_or,not_exists,not_and]at hi
   exact⟨h2o i hi.1 (fun k hk=>hi.2 k (by omega)),g2o' i hi.1 hi.2⟩
  ·intro i o b hi ho hb
   simp only[not_or,not_exists,not_and]at hi
   refine CP.frame.block b ((R.heap.objs i o ho).lt hb) ?_
   rintro o' ⟨i',ob,hi',h1⟩
   obtain⟨j,rfl,hm,_,hs⟩:=hcs i' ob hi'
   have e:=R.heap.sep _ _ _ _ b ho hs hb (Cp.2 h1.G4)
   exact hi.1 (e▸List.mem_of_getElem? hm)
  ·intro i o hi ho
   rcases cases2 i o ho with⟨j,o',hj,hp,rfl⟩ | ⟨k,o',hk7,rfl,hp,rfl⟩ | ⟨h3,h4,_⟩
   ·have:=CP.heap.objs (.ext j) o' (hcj j o' hp)
    rw[hg2,rin j i hj]at this
    exact Bd.push (r:=r) hz2' hg2 ht2 hw2 this
   ·have:=CP.heap.objs (.loc k) o' (hck k o' hp)
    rw[hg2,rloc k hk7]at this
    exact Bd.push (r:=r) hz2' hg2 ht2 hw2 this
   ·rcases hi with hi | ⟨k,hk,rfl⟩
    ·exact absurd hi h3
    ·exact absurd rfl (h4 k hk)
  ·intro i ob b o ti hi h1
   rcases turned i ob b o ti hi h1 with⟨j,o0,h2,h3,h4⟩ | h3
   ·exact .inl ⟨j,o0,.inl h2,h3,h4⟩
   ·exact .inr h3
  ·intro i i' oi oi' b hi hi' ho ho' hb hb'
   have pre1:∀(i:Id) (o:AQ),(i∈m∨∃k,k<32∧i= .loc (fresh+k))→h2 i=some o→∃i0 o0,hc2 i0=some o0∧r i0=i∧g' i0=g2 i∧o=o0.BW r:=by
    intro i o hi ho
    rcases cases2 i o ho with⟨j,o',hj,hp,rfl⟩ | ⟨k,o',hk7,rfl,hp,rfl⟩ | ⟨h3,h4,_⟩
    ·exact⟨.ext j,o',hcj j o' hp,rin j i hj,by rw[hg2,rin j i hj],rfl⟩
    ·exact⟨.loc k,o',hck k o' hp,rloc k hk7,by rw[hg2,rloc k hk7],rfl⟩
    ·rcases hi with hi | ⟨k,hk,rfl⟩
     ·exact absurd hi h3
     ·exact absurd rfl (h4 k hk)
   obtain⟨i0,o0,q1,q2,q3,q4⟩:=pre1 i oi hi ho
   obtain⟨i1,o1,p1,p2,p3,p4⟩:=pre1 i' oi' hi' ho'
   rw[←q3,q4]at hb
   rw[←p3,p4]at hb'
   have:=CP.heap.sep i0 i1 o0 o1 b q1 p1 (Cp.1 hb) (Cp.1 hb')
   rw[←q2,←p2,this]
  ·rintro j (hj | ⟨k,hk,e⟩)
   ·exact g2s _ hj
   ·simp at e
  ·rintro n ⟨hn,hn2⟩
   obtain⟨h3,h4⟩:=R.free n hn
   have hne:∀k,k<32→Id.loc n≠ .loc (fresh+k):=fun k hk e=>hn2 (by simp at e;omega)
   have hnm:Id.loc n∉m:=fun hm=>mlive _ hm h4
   exact⟨(g2o' _ hnm hne).trans h3,(h2o _ hnm (fun k hk=>hne k (by omega))).trans h4⟩
 exact⟨g2,E.map,R2.put hd (BG.push (r:=r) hz2' hg2 ht2 hw2 CP.res)⟩
end Go.AM
namespace Go.AM
open Go Go.RowKit
def EX (w:World) (Z:Av) (g:Ac) (h:Heap) (cs:List CV) (vs:Array Value):Prop:=
 vs.size=cs.length∧∀(j:Nat) c u,cs[j]?=some c→vs[j]?=some u→BM w Z g h c u
theorem NB (off:Nat):∀(l:List Value) (n:Nat) (cells:Array Value),
  ((l.zipIdx n).foldl (fun cs x=>cs.setIfInBounds (off+x.2) x.1) cells).size=cells.size∧
  ∀k,k<cells.size→((l.zipIdx n).foldl (fun cs x=>cs.setIfInBounds (off+x.2) x.1) cells)[k]?=if off+n≤k∧k<off+n+l.length then l[k - (off+n)]? else cells[k]?
 | [],n,cells=>⟨rfl,fun k hk=>by rw[if_neg (by simp only[List.length_nil];omega)];rfl⟩
 | v::l,n,cells=>by
  obtain⟨h1,h2⟩:=NB off l (n+1) (cells.setIfInBounds (off+n) v)
  refine⟨by simpa using h1,fun k hk=>?_⟩
  have:=h2 k (by simpa using hk)
  simp only[List.zipIdx_cons,List.foldl_cons]
  rw[this]
  by_cases he:k=off+n
  ·subst he
   rw[if_neg (by omega),if_pos (by simp)]
   simp[hk]
  ·by_cases hr:off+n≤k∧k<off+n+(v::l).length
   ·rw[if_pos hr,if_pos (by simp at hr;omega)]
    obtain⟨d,hd⟩:∃d,k=off+n+1+d:=⟨k - (off+n+1),by omega⟩
    rw[show k - (off+n)=d+1 from by omega,show k - (off+(n+1))=d from by omega]
    rfl
   ·rw[if_neg hr,if_neg (by simp at hr;omega)]
    rw[Array.getElem?_setIfInBounds_ne (by omega)]
theorem Ke {w:World}{Z:Av}{g:Ac}{h:Heap}{cs ys:List CV}{vs us:Array Value}{off:Nat}(hc:EX w Z g h cs vs) (hy:EX w Z g h ys us) (hb:off+ys.length≤cs.length):
  EX w Z g h (cs.take off++ys++cs.drop (off+ys.length)) (us.zipIdx.foldl (fun cs (c,j)=>cs.setIfInBounds (off+j) c) vs):=by
 have e:us.zipIdx.foldl (fun cs (c,j)=>cs.setIfInBounds (off+j) c) vs=(us.toList.zipIdx 0).foldl (fun cs x=>cs.setIfInBounds (off+x.2) x.1) vs:=by
  rw[←Array.foldl_toList,Array.toList_zipIdx]
 rw[e]
 obtain⟨h1,h2⟩:=NB off us.toList 0 vs
 refine⟨by rw[h1,hc.1];simp;omega,fun j c u hj hu=>?_⟩
 have hlt:j<vs.size:=by rw[←h1];exact (Array.getElem?_eq_some_iff.1 hu).1
 rw[h2 j hlt]at hu
 have hl:=hy.1
 by_cases ha:j<off
 ·rw[if_neg (by omega)]at hu
  rw[List.append_assoc,List.getElem?_append_left (by simp;omega),List.getElem?_take_of_lt ha]at hj
  exact hc.2 j c u hj hu
 ·by_cases hb':j<off+ys.length
  ·rw[if_pos (by simp;omega)]at hu
   rw[List.getElem?_append_left (by simp;omega),List.getElem?_append_right (by simp;omega)]at hj
   have e1:j - (cs.take off).length=j - (off+0):=by simp;omega
   rw[e1]at hj
   exact hy.2 _ c u hj (by simpa using hu)
  ·rw[if_neg (by simp;omega)]at hu
   rw[List.getElem?_append_right (by simp;omega),List.getElem?_drop]at hj
   have e1:off+ys.length+(j - (cs.take off++ys).length)=j:=by simp;omega
   rw[e1]at hj
   exact hc.2 j c u hj hu
theorem Ow {α β:Type}{f:α→Option β}:∀{l:List α}{ps:List β},l.mapM f=some ps→∀(i:Nat) a,l[i]?=some a→f a=ps[i]?
 | [],ps,_,i,a,ha=>by simp at ha
 | x::l,ps,h,i,a,ha=>by
  simp only[List.mapM_cons,Option.bind_eq_bind,Option.pure_def]at h
  cases hx:f x with
  | none=>simp[hx]at h
  | some y=>
   cases hl:l.mapM f with
   | none=>simp[hx,hl]at h
   | some ys=>
    simp[hx,hl]at h
    subst h
    match i with
    | 0=>simp at ha;subst ha;simpa using hx
    | i+1=>simp at ha;simpa using Ow hl i a ha
theorem Ox {P:Program}{ti:Types}(hti:BV P ti) {s:Af}{fs:List Field}{places:List (Nat×Nat)}(hp:fs.mapM (fun f=>(P.info? f.type).map fun i=>(f.offset,i.size))=some places) {k:List CV→Prop}:
  ∀(L:List (Nat×Operand)) (cs:List CV),Q2 ti s fs cs L k→∃cs',k cs'∧∀(w:World) (Z:Av) (g:Ac) (h:Heap) (ev:Operand→Value) (vs:Array Value),
   (∀t i p,(i,p)∈L→BG w Z g h (BQ ti s t p) (ev p))→EX w Z g h cs vs→
   ∃vs',Instr.fill (places.toArray[·]?) vs (L.map fun x=>(x.1,ev x.2))=some vs'∧EX w Z g h cs' vs'
 | [],cs,hk=>⟨cs,hk,fun w Z g h ev vs _ hc=>⟨vs,rfl,hc⟩⟩
 | (i,x)::L,cs,hk=>by
  unfold Q2 at hk
  split at hk
  ·rename_i fd hfd
   obtain⟨j,hj,hk⟩:=AZ.1 hk
   obtain⟨y,hy,hk⟩:=DH.1 hk
   obtain⟨hl,hk⟩:=AR.1 hk
   obtain⟨hb,hk⟩:=AR.1 hk
   have hl:=Nat.eq_of_beq_eq_true hl
   have hb:=Nat.le_of_ble_eq_true hb
   obtain⟨cs',h1,h2⟩:=Ox hti hp L _ hk
   refine⟨cs',h1,fun w Z g h ev vs hev hc=>?_⟩
   have hr:=hev fd.type i x (by simp)
   rw[hy]at hr
   obtain⟨hs1,hs2⟩:=BE.cells hr
   obtain⟨_,ii,hi1,hi2,_⟩:=hti _ _ hj
   have hpl:places[i]?=some (fd.offset,j.size):=by
    rw[←Ow hp i fd hfd,hi1]
    simp[hi2]
   rw[←hl]at h2
   obtain⟨vs',h3,h4⟩:=h2 w Z g h ev _ (fun t i' p hp'=>hev t i' p (List.mem_cons_of_mem _ hp')) (Ke (off:=fd.offset) hc ⟨hs1,hs2⟩ (by omega))
   refine⟨vs',?_,h4⟩
   have e:places.toArray[i]?=some (fd.offset,j.size):=by simpa using hpl
   simp only[List.map_cons,Instr.fill,e]
   rw[if_neg (by rw[hs1,hc.1];simp;omega)]
   exact h3
  ·exact hk.elim
theorem Oy {ti:Types}{s:Af}{e:TypeId}{sz:Nat}{k:List CV→Prop}:
  ∀(L:List (Nat×Operand)) (cs:List CV),Q3 ti s e sz cs L k→∃cs',k cs'∧∀(w:World) (Z:Av) (g:Ac) (h:Heap) (ev:Operand→Value) (vs:Array Value),
   (∀t i p,(i,p)∈L→BG w Z g h (BQ ti s t p) (ev p))→EX w Z g h cs vs→
   ∃vs',Instr.fill (fun i=>some (i*sz,sz)) vs (L.map fun x=>(x.1,ev x.2))=some vs'∧EX w Z g h cs' vs'
 | [],cs,hk=>⟨cs,hk,fun w Z g h ev vs _ hc=>⟨vs,rfl,hc⟩⟩
 | (i,x)::L,cs,hk=>by
  unfold Q3 at hk
  obtain⟨y,hy,hk⟩:=DH.1 hk
  obtain⟨hl,hk⟩:=AR.1 hk
  obtain⟨hb,hk⟩:=AR.1 hk
  have hl:=Nat.eq_of_beq_eq_true hl
  have hb:=Nat.le_of_ble_eq_true hb
  obtain⟨cs',h1,h2⟩:=Oy L _ hk
  refine⟨cs',h1,fun w Z g h ev vs hev hc=>?_⟩
  have hr:=hev e i x (by simp)
  rw[hy]at hr
  obtain⟨hs1,hs2⟩:=BE.cells hr
  subst hl
  obtain⟨vs',h3,h4⟩:=h2 w Z g h ev _ (fun t i' p hp'=>hev t i' p (List.mem_cons_of_mem _ hp')) (Ke (off:=i*y.cells.length) hc ⟨hs1,hs2⟩ (by omega))
  refine⟨vs',?_,h4⟩
  simp only[List.map_cons,Instr.fill]
  rw[if_neg (by rw[hs1,hc.1];simp;omega)]
  exact h3
theorem Oz {P:Program}{ti:Types}(hti:BV P ti):∀(fs:List Field),Q1 ti fs=true→∃places,fs.mapM (fun f=>(P.info? f.type).map fun i=>(f.offset,i.size))=some places
 | [],_=>⟨[],rfl⟩
 | f::fs,h=>by
  unfold Q1 at h
  split at h
  ·rename_i x hx
   obtain⟨l,hl⟩:=Oz hti fs h
   obtain⟨_,ii,hi1,_⟩:=hti _ _ hx
   exact⟨(f.offset,ii.size)::l,by simp[List.mapM_cons,hi1,hl]⟩
  ·simp at h
section
variable {C:Cx}{ti:Types}{o:Oper}{fresh:Nat}{s:Af}{h:Heap}{k:Out→Prop}
theorem S0 (hti:BV C.P ti) (t:TypeId) (parts:Array (Nat×Operand)) (ho:o.op= .build t parts) (hk:K6 ti s t parts.toList k):∃out,k out∧Bm C o fresh s h out:=by
 unfold K6 at hk
 obtain⟨q,hq,hk⟩:=AZ.1 hk
 split at hk
 ·rename_i fs hd
  obtain⟨ha,hk⟩:=AR.1 hk
  obtain⟨places,hp⟩:=Oz hti _ ha
  obtain⟨cs',hk,hx⟩:=Ox hti hp _ _ hk
  refine⟨_,hk,AY fun F σs σh g a w R hs _=>?_⟩
  obtain⟨hu,ii,h1,h2,h3,h4,h5,h6,h7⟩:=hti t q hq
  obtain⟨vs',hf,hr⟩:=hx w (BN (zone g σh) C.X) g σh a.eval q.zero.cells (fun t' i p hp'=>Ai ti t' p R (s:=s) (fun k hk=>hs k (by
   subst hk
   simp only[ho,Op.operands]
   simp
   exact⟨i,by simpa using hp'⟩))) ⟨by rw[h5,h6],fun j c u hc hu=>E3 (h7 j c u hc hu)⟩
  refine⟨.agg vs',?_,(BE.BL hr.1 hr.2).1 rfl⟩
  have hb:C.P.built t (parts.map fun (i,x)=>(i,a.eval x)).toList=some vs':=by
   unfold Program.built
   rw[h1,hu,hd]
   simp only[h4,hp]
   simpa using hf
  have:=run_build w t _ vs' hb
  simp[execOp,ho,this]
 ·rename_i n e hd
  obtain⟨j,hj,hk⟩:=AZ.1 hk
  obtain⟨cs',hk,hx⟩:=Oy _ _ hk
  refine⟨_,hk,AY fun F σs σh g a w R hs _=>?_⟩
  obtain⟨hu,ii,h1,h2,h3,h4,h5,h6,h7⟩:=hti t q hq
  obtain⟨vs',hf,hr⟩:=hx w (BN (zone g σh) C.X) g σh a.eval q.zero.cells (fun t' i p hp'=>Ai ti t' p R (s:=s) (fun k hk=>hs k (by
   subst hk
   simp only[ho,Op.operands]
   simp
   exact⟨i,by simpa using hp'⟩))) ⟨by rw[h5,h6],fun j c u hc hu=>E3 (h7 j c u hc hu)⟩
  refine⟨.agg vs',?_,(BE.BL hr.1 hr.2).1 rfl⟩
  rw[hd]at hu
  have e2:=Fh hti hj w
  have hz:(zeroValue t).run C.P w= .ok q.zero w:=by simp[zeroValue,typeInfo,h1,h4]
  have hu':(underlying t).run C.P w= .ok (.array n e) w:=by simp[underlying,hu]
  have:(Instr.build t (parts.map fun (i,x)=>(i,a.eval x))).run C.P w= .ok (.agg vs') w:=by
   unfold Instr.build
   simp only[Sem.run_bind,hz,hu',e2,Result.andThen,Array.toList_map]
   rw[hf]
   rfl
  simp[execOp,ho,this]
 ·exact hk.elim
end
end Go.AM
namespace Go.AM
open Go Go.RowKit
section
variable {C:Cx}{ti:Types}{o:Oper}{fresh:Nat}{s:Af}{h:Heap}{k:Out→Prop}
theorem O0:∀{xs:List V1}{i:Nat}{y:V1},Sp xs i=some y→xs[i]?=some y
 | [],_,_,h=>by simp[Sp]at h
 | x::r,0,y,h=>by simpa [Sp] using h
 | x::r,i+1,y,h=>by simpa using O0 (xs:=r) (i:=i) h
theorem QH (x:Operand) (i:Nat) (ho:o.op= .extract x i) (hk:Hx (BQ ti s 0 x) i k):∃out,k out∧Bm C o fresh s h out:=by
 unfold Hx at hk
 split at hk
 ·rename_i xs hop
  split at hk
  ·rename_i y hy
   refine⟨_,hk,AY fun F σs σh g a w R hs _=>?_⟩
   have hx:=Ai ti 0 x R (s:=s) (fun t ht=>hs t (by subst ht;simp[ho,Op.operands]))
   rw[hop]at hx
   obtain⟨vs,hv,hsz,hr⟩:=hx
   have hxy:=O0 hy
   have hlt:i<vs.size:=by rw[hsz];exact (List.getElem?_eq_some_iff.1 hxy).1
   refine⟨vs[i],?_,hr i y vs[i] hxy (by simp[hlt])⟩
   simp[execOp,ho,Instr.extract,hv,hlt]
  ·exact hk.elim
 ·exact hk.elim
theorem QI (hti:BV C.P ti) (src dst:TypeId) (x:Operand) (ho:o.op= .convert src dst x) (hk:Hy ti src dst (BQ ti s src x) k):∃out,k out∧Bm C o fresh s h out:=by
 unfold Hy at hk
 obtain⟨a1,h1,hk⟩:=AZ.1 hk
 obtain⟨b1,h2,hk⟩:=AZ.1 hk
 split at hk
 ·rename_i q1 q d1 d2
  obtain⟨q',n,hx0,z,hz,hk⟩:=DI.1 hk
  refine⟨_,hk,AY fun F σs σh g a w R hs _=>?_⟩
  have hx:=Ai ti src x R (s:=s) (fun t ht=>hs t (by subst ht;simp[ho,Op.operands]))
  rw[hx0]at hx
  have hx:=GF hx
  refine⟨.int q z,?_,.int _ _⟩
  have e1:=DB hti h1 w
  have e2:=DB hti h2 w
  rw[d1]at e1
  rw[d2]at e2
  simp[execOp,ho,convert,e1,e2,hx,Conv.intToInt,hz]
 ·exact hk.elim
theorem LF {w:World}{Z:Av}{g:Ac}{h:Heap}{y:V1}{v:Value}(hy:Nj y=true) (r:BE w Z g h y v):∃vs,v= .agg vs:=by
 cases y with
 | d x=>
  cases x with
  | agg cs=>cases (show Aj w Z (.agg cs) v from r)with | agg _ vs=>exact⟨vs,rfl⟩
  | _=>simp[Nj,D.isAgg]at hy
 | c x=>simp[Nj]at hy
 | agg cs=>obtain⟨vs,hv,_⟩:=r;exact⟨vs,hv⟩
theorem R6 (hti:BV C.P ti) {t:TypeId}{i:TI}(hi:ti t=some i) (w:World):(isAgg t).run C.P w= .ok (Ax i.desc) w:=by
 have:=DB hti hi w
 unfold isAgg
 cases hd:i.desc<;>simp[hd]at this<;>simp[this,Ax]
theorem O1 (hti:BV C.P ti) (h1:Bo ti) {t:TypeId}{i:TI}(hi:ti t=some i) {w:World}{Z:Av}{g:Ac}{h:Heap}{cs:List CV}{vs:Array Value}{off:Nat}(hs:vs.size=cs.length)
  (hr:∀(j:Nat) c u,cs[j]?=some c→vs[j]?=some u→BM w Z g h c u) (hb:off+i.size≤cs.length):
  ∃u,(part t vs off).run C.P w= .ok u w∧BG w Z g h (.v (V1.BL (Ax i.desc) ((cs.drop off).take i.size))) u:=by
 have e1:=R6 hti hi w
 have e2:=Fh hti hi w
 have hsz:(vs.extract off (off+i.size)).size=((cs.drop off).take i.size).length:=by simp;omega
 have hrel:∀(j:Nat) c u,((cs.drop off).take i.size)[j]?=some c→(vs.extract off (off+i.size))[j]?=some u→BM w Z g h c u:=by
  intro j c u hc hu
  rw[List.getElem?_take]at hc
  split at hc
  ·rename_i hj
   rw[List.getElem?_drop]at hc
   refine hr (off+j) c u hc ?_
   rw[Array.getElem?_extract]at hu
   split at hu
   ·exact hu
   ·cases hu
  ·cases hc
 cases hrow:Ax i.desc with
 | true=>
  rw[hrow]at e1
  refine⟨.agg (vs.extract off (off+i.size)),by simp[part,e1,e2],(BE.BL hsz hrel).1 rfl⟩
 | false=>
  rw[hrow]at e1
  have hone:=h1 t i hi hrow
  have hlt:off<vs.size:=by omega
  refine⟨vs[off],by simp[part,e1,hlt],(BE.BL hsz hrel).2 rfl _ ?_⟩
  apply Array.ext
  ·simp;omega
  ·intro j h2 h3
   simp at h3
   subst h3
   simp
theorem R7 (hti:BV C.P ti) (h1:Bo ti) (t:TypeId) (x:Operand) (f:Nat) (ho:o.op= .field t x f) (hk:Jm ti t (BQ ti s t x) f k):∃out,k out∧Bm C o fresh s h out:=by
 unfold Jm at hk
 obtain⟨i,hi,hk⟩:=AZ.1 hk
 split at hk
 ·rename_i fs hd
  split at hk
  ·rename_i fd hfd
   obtain⟨j,hj,hk⟩:=AZ.1 hk
   obtain⟨y,hy,hk⟩:=DH.1 hk
   obtain⟨hag,hk⟩:=AR.1 hk
   obtain⟨hb,hk⟩:=AR.1 hk
   have hb:=Nat.le_of_ble_eq_true hb
   refine⟨_,hk,AY fun F σs σh g a w R hs _=>?_⟩
   have hx:=Ai ti t x R (s:=s) (fun t ht=>hs t (by subst ht;simp[ho,Op.operands]))
   rw[hy]at hx
   obtain⟨vs,hv⟩:=LF hag hx
   obtain⟨c1,c2⟩:=BE.cells hx
   have e1:=DB hti hi w
   rw[hd]at e1
   rw[hv]at c1 c2
   obtain⟨u,hu,hr⟩:=O1 hti h1 hj (w:=w) (vs:=vs) (off:=fd.offset) (by simpa [Value.cells] using c1) (fun j c u h1 h2=>c2 j c u h1 (by simpa [Value.cells] using h2)) hb
   refine⟨u,?_,hr⟩
   simp[execOp,ho,Instr.field,e1,hfd,hv,asAgg,hu]
  ·exact hk.elim
 ·exact hk.elim
theorem IV {d:Int}{x:Option Operand}{k:Int→Prop}(hk:Ru ti s d x k):∃n,k n∧((x=none∧n=d)∨∃y q,x=some y∧BQ ti s 3 y= .v (.d (.int q n))):=by
 unfold Ru at hk
 split at hk
 ·exact⟨d,hk,.inl ⟨rfl,rfl⟩⟩
 ·rename_i y
  obtain⟨q,n,h1,hk⟩:=DI.1 hk
  exact⟨n,hk,.inr ⟨y,q,rfl,h1⟩⟩
theorem CY {P:Program}{w:World}{q:IntKind}{n:Int}{y:Nat}{code:BoundsCode}(h0:0≤n) (h1:n≤y):(Instr.sliceBound (.int q n) y code).run P w= .ok n.toNat w:=by
 simp[Instr.sliceBound,asIntOf,h0,h1]
theorem R8 (hti:BV C.P ti) (t:TypeId) (x:Operand) (lo hi mx:Option Operand) (ho:o.op= .slice t x lo hi mx) (hk:K7 C.M ti s t (BQ ti s t x) lo hi mx k):∃out,k out∧Bm C o fresh s h out:=by
 unfold K7 at hk
 obtain⟨i,hi',hk⟩:=AZ.1 hk
 have bnd:∀{F:Nat→Prop} {σs:Af} {σh:Heap} {g:Ac} {a:Act} {w:World} (R:Ap C F σs σh g a w),(∀t,Operand.tmp t∈o.op.operands.toList→σs t=s t)→
   ∀y q n,(lo=some y∨hi=some y∨mx=some y)→BQ ti s 3 y= .v (.d (.int q n))→a.eval y= .int q n:=by
  intro F σs σh g a w R hs y q n hy hop
  have hx:=Ai ti 3 y R (s:=s) (fun t ht=>hs t (by subst ht;rcases hy with h | h | h<;>simp[ho,Op.operands,h]))
  rw[hop]at hx
  exact GF hx
 split at hk
 ·rename_i hd
  split at hk
  ·rename_i b hop
   obtain⟨l,hk,hl⟩:=IV hk
   obtain⟨u,hk,hu⟩:=IV hk
   split at hk
   ·rename_i hmx
    obtain⟨r,⟨h0,h1,h2⟩,hr,hk⟩:=hk
    refine⟨_,hk,AY fun F σs σh g a w R hs _=>?_⟩
    have hx:=Ai ti t x R (s:=s) (fun t ht=>hs t (by subst ht;simp[ho,Op.operands]))
    rw[hop]at hx
    have hx:=Oi hx
    rw[C.M.szI_eq]at h2
    refine⟨.string r,?_,.str _⟩
    have e1:=DB hti hi' w
    rw[hd]at e1
    have hb:(Instr.sliceBounds false b.size b.size (lo.map a.eval) (hi.map a.eval) none).run C.P w= .ok (l.toNat,u.toNat,b.size) w:=by
     rcases hu with⟨rfl,rfl⟩ | ⟨y,q,rfl,hy⟩
     ·rw[C.M.szI_eq]at h1 ⊢
      rcases hl with⟨rfl,rfl⟩ | ⟨z,q',rfl,hz⟩
      ·simp[Instr.sliceBounds]
      ·simp[Instr.sliceBounds,bnd R hs z q' l (.inl rfl) hz,CY (P:=C.P) (w:=w) h0 h1]
     ·have hy':=bnd R hs y q u (.inr (.inl rfl)) hy
      have e2:=CY (P:=C.P) (w:=w) (q:=q) (n:=u) (y:=b.size) (code:=.sliceAlen) (by omega) (by omega)
      rcases hl with⟨rfl,rfl⟩ | ⟨z,q',rfl,hz⟩
      ·simp[Instr.sliceBounds,hy',e2]
      ·have e3:=CY (P:=C.P) (w:=w) (q:=q') (n:=l) (y:=u.toNat) (code:=.sliceB) h0 (by omega)
       simp[Instr.sliceBounds,hy',e2,bnd R hs z q' l (.inl rfl) hz,e3]
    simp[execOp,ho,Instr.sliceAt,Instr.slice,e1,hx,hmx,hb,hr]
   ·exact hk.elim
  ·exact hk.elim
 ·rename_i e hd
  obtain⟨j,hj,hk⟩:=AZ.1 hk
  obtain⟨ag,sz,rows,hrel,hk⟩:=E2 hk
  obtain⟨hag,hk⟩:=AR.1 hk
  obtain⟨hsz,hk⟩:=AR.1 hk
  have hsz:=Nat.eq_of_beq_eq_true hsz
  obtain⟨l,hk,hl⟩:=IV hk
  obtain⟨u,hk,hu⟩:=IV hk
  have main:∃(out:List D) (m:Option Int),(m=none∧mx=none∨∃y q z,mx=some y∧hi=some z∧BQ ti s 3 y= .v (.d (.int q u))∧m=some u)∧(0≤l∧l≤u∧u≤C.M.lenI rows)∧(rows.take u.toNat).drop l.toNat=out∧
    k ⟨match m with | none=>.v (.d (.list ag sz out)) | some _=>.v (.c (.tl ag sz out)),[],[]⟩:=by
   cases mx with
   | none=>
    obtain⟨out,h0,h1,hk⟩:=hk
    exact⟨out,none,.inl ⟨rfl,rfl⟩,h0,h1,hk⟩
   | some y=>
    cases hi with
    | none=>exact hk.elim
    | some z=>
     obtain⟨q,v,hy,out,⟨h0,h1,h2,rfl⟩,h3,hk⟩:=DI.1 hk
     exact⟨out,some v,.inr ⟨y,q,z,rfl,rfl,hy,rfl⟩,⟨h0,h1,h2⟩,h3,hk⟩
  obtain⟨out,m,hm,⟨h0,h1,h2⟩,hout,hk⟩:=main
  refine⟨_,hk,AY fun F σs σh g a w R hs _=>?_⟩
  have hx:=hrel (Ai ti t x R (s:=s) (fun t ht=>hs t (by subst ht;simp[ho,Op.operands])))
  rw[C.M.lenI_eq]at h2
  have bhi:hi=none→u=rows.length:=by
   intro h
   rcases hu with⟨_,rfl⟩ | ⟨y,q,he,_⟩
   ·exact C.M.lenI_eq rows
   ·rw[h]at he;cases he
  generalize hv:a.eval x=v at hx
  cases hx with
  | list _ _ _ A cap b off U hcap hmax hfit ha hc hr=>
   have e1:=DB hti hi' w
   rw[hd]at e1
   have e4:=Fh hti hj w
   have lists:∀cap',u.toNat - l.toNat≤cap'→cap'≤maxLen→∀A',(l.toNat<u.toNat→A'=A.map (·.add (l.toNat*j.size)))→
     Aj w (BN (zone g σh) C.X) (.list ag sz out) (.slice A' (u.toNat - l.toNat) cap'):=by
    intro cap' hc1 hc2 A' hA'
    have hlen:out.length=u.toNat - l.toNat:=by rw[←hout];simp;omega
    have hget:∀(i:Nat) r,out[i]?=some r→rows[l.toNat+i]?=some r∧i<u.toNat - l.toNat:=by
     intro i r hr
     have hlt:=(List.getElem?_eq_some_iff.1 hr).1
     rw[←hout,List.getElem?_drop,List.getElem?_take]at hr
     split at hr
     ·exact⟨hr,by omega⟩
     ·simp at hr
    have hmem:∀r∈out,r∈rows:=by
     intro r hr
     rw[←hout]at hr
     exact List.mem_of_mem_take (List.mem_of_mem_drop hr)
    have:=Aj.list (w:=w) (Z:=BN (zone g σh) C.X) ag sz out A' cap' b (off+l.toNat*sz) (fun i q=>U (l.toNat+i) q) (by omega) hc2 (fun r hr=>hfit r (hmem r hr))
     (fun hne=>by
      have hpos:l.toNat<u.toNat:=by
       have:out.length≠0:=fun h=>hne (List.eq_nil_of_length_eq_zero h)
       omega
      rw[hA' hpos,ha (by rintro rfl;simp at h2;omega),hsz]
      simp[Bz])
     (fun i r q c hr' hcc=>by
      obtain⟨h3,_⟩:=hget i r hr'
      have:=hc (l.toNat+i) r q c h3 hcc
      rw[show off+((l.toNat+i)*sz+q)=off+l.toNat*sz+(i*sz+q)from by rw[Nat.add_mul];omega]at this
      exact this)
     (fun i r q c hr' hcc=>hr (l.toNat+i) r q c (hget i r hr').1 hcc)
    rw[hlen]at this
    exact this
   have hlo:∀top:Nat,l≤top→∀code,(match lo.map a.eval with | some v=>Instr.sliceBound v top code | none=>pure 0:Sem Nat).run C.P w= .ok l.toNat w:=by
    intro top htop code
    rcases hl with⟨rfl,rfl⟩ | ⟨z,q',rfl,hz⟩
    ·rfl
    ·simp[bnd R hs z q' l (.inl rfl) hz,CY (P:=C.P) (w:=w) h0 htop]
   rcases hm with⟨rfl,hmx⟩ | ⟨y,q,z,hmx,hhi,hy,rfl⟩
   ·-- no third bound
    have hb:(Instr.sliceBounds true rows.length cap (lo.map a.eval) (hi.map a.eval) none).run C.P w= .ok (l.toNat,u.toNat,cap) w:=by
     have e3:=hlo u.toNat (by omega)
     rcases hu with⟨hh,hu⟩ | ⟨z,q',hh,hz⟩
     ·have e5:=bhi hh
      subst hh
      subst e5
      simp only[Int.toNat_natCast]at e3
      rcases hl with⟨rfl,rfl⟩ | ⟨z,q',rfl,hz⟩
      ·simp[Instr.sliceBounds]
      ·simp[Instr.sliceBounds,bnd R hs z q' l (.inl rfl) hz,CY (P:=C.P) (w:=w) h0 h1]
     ·subst hh
      have hz':=bnd R hs z q' u (.inr (.inl rfl)) hz
      have e6:=CY (P:=C.P) (w:=w) (q:=q') (n:=u) (y:=cap) (code:=.sliceAcap) (by omega) (by omega)
      rcases hl with⟨rfl,rfl⟩ | ⟨z2,q2,rfl,hz2⟩
      ·simp[Instr.sliceBounds,hz',e6]
      ·simp[Instr.sliceBounds,hz',e6,bnd R hs z2 q2 l (.inl rfl) hz2,CY (P:=C.P) (w:=w) (q:=q2) (n:=l) (y:=u.toNat) (code:=.sliceB) h0 (by omega)]
    refine⟨.slice (if cap=l.toNat then A else A.map (·.add (l.toNat*j.size))) (u.toNat - l.toNat) (cap - l.toNat),?_,lists _ (by omega) (by omega) _ (fun h=>by rw[if_neg (by omega)])⟩
    simp[execOp,ho,Instr.sliceAt,Instr.slice,e1,hv,hmx,hb,e4]
   ·have hy':=bnd R hs y q u (.inr (.inr hmx)) hy
    obtain⟨z',q',hz0,hz⟩:∃z' q',hi=some z'∧BQ ti s 3 z'= .v (.d (.int q' u)):=by
     rcases hu with⟨hh,_⟩ | ⟨z,q',hh,hz⟩
     ·rw[hhi]at hh;cases hh
     ·exact⟨z,q',hh,hz⟩
    have hz':=bnd R hs z' q' u (.inr (.inl hz0)) hz
    have hb:(Instr.sliceBounds true rows.length cap (lo.map a.eval) (hi.map a.eval) (mx.map a.eval)).run C.P w= .ok (l.toNat,u.toNat,u.toNat) w:=by
     have e6:=CY (P:=C.P) (w:=w) (q:=q) (n:=u) (y:=cap) (code:=.slice3Acap) (by omega) (by omega)
     have e7:=CY (P:=C.P) (w:=w) (q:=q') (n:=u) (y:=u.toNat) (code:=.slice3B) (by omega) (by omega)
     rw[hmx,hz0]
     rcases hl with⟨rfl,rfl⟩ | ⟨z2,q2,rfl,hz2⟩
     ·simp[Instr.sliceBounds,hy',hz',e6,e7]
     ·simp[Instr.sliceBounds,hy',hz',e6,e7,bnd R hs z2 q2 l (.inl rfl) hz2,CY (P:=C.P) (w:=w) (q:=q2) (n:=l) (y:=u.toNat) (code:=.slice3C) h0 (by omega)]
    have hlen:out.length=u.toNat - l.toNat:=by rw[←hout];simp;omega
    refine⟨.slice (if u.toNat=l.toNat then A else A.map (·.add (l.toNat*j.size))) (u.toNat - l.toNat) (u.toNat - l.toNat),?_,lists _ (by omega) (by omega) _ (fun h=>by rw[if_neg (by omega)]),_,by rw[hlen]⟩
    simp[execOp,ho,Instr.sliceAt,Instr.slice,e1,hv,hb,e4]
 ·exact hk.elim
theorem R9 (hti:BV C.P ti) (h1:Bo ti) (t:TypeId) (x y:Operand) (ho:o.op= .index t x y) (hk:Jl ti t (BQ ti s t x) (BQ ti s 3 y) k):∃out,k out∧Bm C o fresh s h out:=by
 unfold Jl at hk
 obtain⟨q,n,hy,hk⟩:=DI.1 hk
 obtain⟨i,hi,hk⟩:=AZ.1 hk
 split at hk
 ·rename_i hd
  split at hk
  ·rename_i b hop
   obtain⟨z,⟨h0,hz⟩,hk⟩:=hk
   refine⟨_,hk,AY fun F σs σh g a w R hs _=>?_⟩
   have hx:=Ai ti t x R (s:=s) (fun t ht=>hs t (by subst ht;simp[ho,Op.operands]))
   rw[hop]at hx
   have hx:=Oi hx
   have hyy:=Ai ti 3 y R (s:=s) (fun t ht=>hs t (by subst ht;simp[ho,Op.operands]))
   rw[hy]at hyy
   have hyy:=GF hyy
   have e1:=DB hti hi w
   rw[hd]at e1
   obtain⟨u,hu,hz⟩:=Option.map_eq_some_iff.1 hz
   refine⟨.int .u8 z,?_,.int _ _⟩
   simp[execOp,ho,Instr.index,asIntOf,e1,hx,hyy,h0,hu,hz]
  ·exact hk.elim
 ·rename_i len e hd
  obtain⟨j,hj,hk⟩:=AZ.1 hk
  split at hk
  ·rename_i cs hop
   obtain⟨h3,r,h0,hr,hk⟩:=AR.1 hk
   have h3:=Nat.eq_of_beq_eq_true h3
   refine⟨_,hk,AY fun F σs σh g a w R hs _=>?_⟩
   have hx:=Ai ti t x R (s:=s) (fun t ht=>hs t (by subst ht;simp[ho,Op.operands]))
   rw[hop]at hx
   have hyy:=Ai ti 3 y R (s:=s) (fun t ht=>hs t (by subst ht;simp[ho,Op.operands]))
   rw[hy]at hyy
   have hyy:=GF hyy
   have e1:=DB hti hi w
   rw[hd]at e1
   have e2:=Fh hti hj w
   obtain⟨hlt,rfl⟩:=FJ hr
   generalize hv:a.eval x=v at hx
   cases (show Aj w _ (.agg cs) v from hx)with
   | agg _ vs hsz hag hrel=>
    have hb:n.toNat*j.size+j.size≤(cs.map CV.d).length:=by
     have:=Nat.mul_le_mul_right j.size (show n.toNat+1≤len from hlt)
     rw[Nat.add_mul]at this
     simp
     omega
    obtain⟨u,hu,hru⟩:=O1 (g:=g) (h:=σh) hti h1 hj (cs:=cs.map CV.d) (vs:=vs) (off:=n.toNat*j.size) (by simp[hsz]) (fun q c u hc hu=>by
     simp only[List.getElem?_map,Option.map_eq_some_iff]at hc
     obtain⟨c',hc',rfl⟩:=hc
     exact⟨hrel q c' u hc' hu,hag c' (List.mem_of_getElem? hc')⟩) hb
    refine⟨u,?_,?_⟩
    ·have hn:n<(len:Int):=by omega
     simp[execOp,ho,Instr.index,asIntOf,e1,hv,hyy,h0,hn,e2,hu]
    ·rw[←List.map_drop,←List.map_take]at hru
     have e:V1.BL (Ax j.desc) (((cs.drop (n.toNat*j.size)).take j.size).map CV.d)= .d (rowOf (Ax j.desc) ((cs.drop (n.toNat*j.size)).take j.size)):=by
      cases hrow:Ax j.desc with
      | true=>
       have:∀l:List D,P5 (l.map CV.d)=some l:=by
        intro l
        induction l with
        | nil=>rfl
        | cons x l ih=>simp[P5,ih]
       unfold V1.BL
       simp only[]
       rw[this]
       rfl
      | false=>
       have hone:=h1 e j hj hrow
       have hl:((cs.drop (n.toNat*j.size)).take j.size).length=1:=by
        simp at hb ⊢
        omega
       obtain⟨d,hd⟩:=List.length_eq_one_iff.1 hl
       rw[hd]
       rfl
     rw[e]at hru
     exact hru
  ·exact hk.elim
 ·exact hk.elim
end
end Go.AM
