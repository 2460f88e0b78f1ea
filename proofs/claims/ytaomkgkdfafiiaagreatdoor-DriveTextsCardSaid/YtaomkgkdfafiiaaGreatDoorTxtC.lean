/- Part of a proof. No condition. (Part 3.) -/
import Derived.Lib.AppendStr
import Derived.LoopNIn
import Derived.OrdersIn
import Derived.Test.YtaomkgkdfafiiaaGreatDoorTxtB
set_option linter.unusedVariables false
set_option linter.unusedSimpArgs false
namespace Go.AM
open Go Go.RowKit
section
variable {C:Cx}{F:Nat→Prop}{s:AN}{h:AE}{g:AL}{a:Act}{w:World}{ti:Types}
theorem Jt {Z:Ad}{ag:Bool}{sz:Nat}{rows:List D}{gv:Value}(r:BH w Z g h (.tree .flat ag sz rows none) gv):
  isTu gv∧0<sz∧(∀r∈rows,r.fits ag sz)∧∃xs,Holds w .flat sz (gval gv) rows.length xs∧
   (∀(i:Nat) r (j:Nat) c,rows[i]?=some r→r.cells[j]?=some c→∃u,xs[i*sz+j]?=some u∧AX w Z c u)∧∀b,BC gv b↔blk (gval gv)=some b:=by
 obtain⟨ht,h0,hf,xs,hx,_,U,T,h1,h2,h3,h4,h5⟩:=r
 have nT:∀i j b',¬T i j b':=by
  intro i j b' hT
  obtain⟨_,r,c,p1,p2⟩:=h2 i j b' hT
  exact ((Cs.fz rfl).1 (h1 i r j c (fun _ _ h=>by cases h) p1 p2).2).2 b' hT
 refine⟨ht,h0,hf,xs,hx,fun i r j c hr hc=>?_,fun b=>?_⟩
 ·obtain⟨p1,p2⟩:=h1 i r j c (fun _ _ h=>by cases h) hr hc
  exact⟨_,p1,((Cs.fz rfl).1 p2).1.1⟩
 ·rw[h5]
  exact⟨fun h=>h.elim id fun⟨i,j,h⟩=>(nT i j b h).elim,.inl⟩
theorem Qo {Z:Ad}{ag:Bool}{sz:Nat}{rows:List D}{gv:Value}(ht:isTu gv) (h0:0<sz) (hf:∀r∈rows,r.fits ag sz) {xs:List Value}(hx:Holds w .flat sz (gval gv) rows.length xs)
  (hc:∀(i:Nat) r (j:Nat) c,rows[i]?=some r→r.cells[j]?=some c→∃u,xs[i*sz+j]?=some u∧AX w Z c u) (hb:∀b,BC gv b↔blk (gval gv)=some b):BH w Z g h (.tree .flat ag sz rows none) gv:=by
 refine⟨ht,h0,hf,xs,hx,(fun _ _ h=>by cases h),fun i j=>xs.getD (i*sz+j) undef,fun _ _ _=>False,fun i r j c _ hr hj=>?_,(fun _ _ _ h=>h.elim),(fun _ _ _ h=>h.elim),(fun _ _ _ _ _ h=>h.elim),fun b=>?_⟩
 ·obtain⟨u,hu,hd⟩:=hc i r j c hr hj
  have e1:xs.getD (i*sz+j) undef=u:=by simp[hu]
  show xs[i*sz+j]?=some (xs.getD (i*sz+j) undef)∧Cs w Z .flat c (xs.getD (i*sz+j) undef) _
  rw[e1]
  exact⟨hu,(Cs.fz rfl).2 ⟨⟨hd,(hf r (List.mem_of_getElem? hr)).2.2 c (List.mem_of_getElem? hj)⟩,fun _ h=>h⟩⟩
 ·rw[hb]
  exact⟨.inl,fun h=>h.elim id fun⟨_,_,h⟩=>h.elim⟩
theorem Wt (hti:Ao C.P ti) (h1:BB ti) {t:TypeId}{i:TI}(hi:ti t=some i) (R:AR C F s h g a w) {id:Id}{ag:Bool}{sz k:Nat}{rows:List D}{r:D}
  (hid:h id=some (.tree .flat ag sz rows none)) (hr:rows[k]?=some r) {b o:Nat} (hb:blk (gval (g id))=some b) (ho:o+i.size≤r.cells.length):
  ∃v,(Instr.loadAt t (.pointer (some ⟨b,k*sz+o,none⟩))).run C.P w= .ok v w∧An w (Al (zone g h) C.X) g h (.v (V1.AZ (AU i.desc) (((r.cells.drop o).take i.size).map CV.d))) v:=by
 obtain⟨ht,h0,hf,xs,hx,hcell,hbl⟩:=Jt (R.heap.objs id _ hid)
 obtain⟨f1,f2,f3⟩:=hf r (List.mem_of_getElem? hr)
 have hl:=hx.len
 have hklt:=(List.getElem?_eq_some_iff.1 hr).1
 have hlt:k*sz+sz≤xs.length:=by
  have:=Nat.mul_le_mul_right sz (show k+1≤rows.length from hklt)
  rw[Nat.add_mul]at this
  omega
 let vs:Array Value:=((xs.drop (k*sz+o)).take i.size).toArray
 have hvs:∀(j:Nat) u,vs[j]?=some u→xs[k*sz+(o+j)]?=some u∧j<i.size:=by
  intro j u hu
  simp only[vs,List.getElem?_toArray,List.getElem?_take]at hu
  split at hu
  ·rename_i hj
   rw[List.getElem?_drop]at hu
   exact⟨by rw[←hu];congr 1;omega,hj⟩
  ·cases hu
 have hsz:vs.size=i.size:=by simp[vs];omega
 obtain⟨v,hv,ha,hb'⟩:=B8 (P:=C.P) (w:=w) (vs:=vs) (b:=b) (q:=k*sz+o) hti h1 hi hsz (fun j u hu=>by
  have:=hx.cell rfl hb (hvs j u hu).1
  rw[show k*sz+o+j=k*sz+(o+j)from by omega]
  exact this)
 refine⟨v,hv,?_⟩
 have:=Ag.AZ (w:=w) (Z:=Al (zone g h) C.X) (g:=g) (h:=h) (ag:=AU i.desc) (cs:=((r.cells.drop o).take i.size).map CV.d) (vs:=vs) (by simp[hsz];omega) (fun j c u hc hu=>by
  simp only[List.getElem?_map,Option.map_eq_some_iff]at hc
  obtain⟨d,hd,rfl⟩:=hc
  rw[List.getElem?_take]at hd
  split at hd
  ·rw[List.getElem?_drop]at hd
   obtain⟨u',q1,q2⟩:=hcell k r (o+j) d hr hd
   rw[(hvs j u hu).1]at q1
   cases q1
   exact⟨q2,f3 d (List.mem_of_getElem? hd)⟩
  ·cases hd)
 cases hrow:AU i.desc with
 | true=>rw[ha hrow];rw[hrow]at this;exact this.1 rfl
 | false=>rw[hrow]at this;exact this.2 rfl v (hb' hrow)
theorem AR.X0 (R:AR C F s h g a w) {id:Id}{ag:Bool}{sz k:Nat}{rows:List D}{r:D}(hid:h id=some (.tree .flat ag sz rows none)) (hr:rows[k]?=some r)
  {b o:Nat} (hb:blk (gval (g id))=some b) {ds:List D} {vals:List Value} (hl:vals.length=ds.length) (ho:o+ds.length≤r.cells.length)
  (hd:∀(j:Nat) x u,ds[j]?=some x→vals[j]?=some u→AX w (Al (zone g h) C.X) x u) (hda:∀d∈ds,d.isAgg=false) {rows':List D} (hrows:rows.set k (rowOf ag (r.cells.take o++ds++r.cells.drop (o+ds.length)))=rows'):
  ∃c e,w.heap[b]?=some (.cells c e (0,0))∧k*sz+o+vals.length≤c.size∧
   AR C F s (AJ h id (.tree .flat ag sz rows' none)) g a (w.setRow b (c.toList.take (k*sz+o)++vals++c.toList.drop (k*sz+o+vals.length)).toArray):=by
 obtain⟨ht,h0,hf,xs,hx,hcell,hbl⟩:=Jt (R.heap.objs id _ hid)
 obtain⟨f1,f2,f3⟩:=hf r (List.mem_of_getElem? hr)
 have hk:=(List.getElem?_eq_some_iff.1 hr).1
 obtain⟨b',c,e,e1,e2,e3,e4,e5⟩:=hx.block rfl (by omega)
 rw[hb]at e1
 cases e1
 have hlt:k*sz+sz≤rows.length*sz:=by
  have:=Nat.mul_le_mul_right sz (show k+1≤rows.length from hk)
  rw[Nat.add_mul]at this
  omega
 have hsp:k*sz+o+vals.length≤c.size:=by omega
 let c':Array Value:=(c.toList.take (k*sz+o)++vals++c.toList.drop (k*sz+o+vals.length)).toArray
 have hc':c'.size=c.size:=by simp[c'];omega
 have hget:∀j,c'[j]?=if k*sz+o≤j∧j<k*sz+o+vals.length then vals[j - (k*sz+o)]? else c[j]?:=by
  intro j
  have:=CF c.toList vals (k*sz+o) (by simpa using hsp) j
  simp only[c',List.getElem?_toArray]
  rw[this]
  simp
 have hxs:∀j,xs[j]?=if j<rows.length*sz then c[j]? else none:=by
  intro j
  rw[←e4,List.getElem?_take]
  split
  ·simp
  ·rfl
 have hxs':∀j,(c'.toList.take (rows.length*sz))[j]?=if j<rows.length*sz then c'[j]? else none:=by
  intro j
  rw[List.getElem?_take]
  split
  ·simp
  ·rfl
 let row:List D:=r.cells.take o++ds++r.cells.drop (o+ds.length)
 have hrl:row.length=sz:=by simp[row];omega
 have hra:∀d∈row,d.isAgg=false:=by
  intro d hd'
  simp only[row,List.mem_append]at hd'
  rcases hd' with (hd' | hd') | hd'
  ·exact f3 d (List.mem_of_mem_take hd')
  ·exact hda d hd'
  ·exact f3 d (List.mem_of_mem_drop hd')
 obtain⟨rc,ra⟩:=EV (ag:=ag) hra (fun e'=>by
  subst e'
  have:r.cells=[r]:=by
   cases r<;>first | rfl | simp[D.isAgg]at f1
  rw[this]at f2
  rw[hrl,←f2];rfl)
 have hlen:rows'.length=rows.length:=by rw[←hrows];simp
 have hf':∀r∈rows',r.fits ag sz:=by
  intro r' hr'
  rw[←hrows]at hr'
  rcases List.mem_or_eq_of_mem_set hr' with hr' | rfl
  ·exact hf r' hr'
  ·exact⟨ra,by rw[rc];exact hrl,by rw[rc];exact hra⟩
 refine⟨c,e,e2,hsp,R.Vj hid (fun o'=>(hbl b).2 hb) (fun _ _ hz=>hz) (fun _=>rfl) (fun _ _ _ h=>by cases h) e2 (fun E=>?_)⟩
 refine Qo ht h0 hf' (xs:=c'.toList.take (rows.length*sz)) (by rw[hlen];exact e5 c' hc') (fun i r' j x hi hj=>?_) hbl
 have hil:i<rows.length:=by rw[←hlen];exact (List.getElem?_eq_some_iff.1 hi).1
 have hjl:j<sz:=by rw[←(hf' r' (List.mem_of_getElem? hi)).2.1];exact (List.getElem?_eq_some_iff.1 hj).1
 have hpos:i*sz+j<rows.length*sz:=by
  have:=Nat.mul_le_mul_right sz (show i+1≤rows.length from hil)
  rw[Nat.add_mul]at this
  omega
 rw[hxs',if_pos hpos,hget]
 by_cases hik:i=k
 ·subst hik
  rw[←hrows,List.getElem?_set_self hk]at hi
  cases hi
  have hj:row[j]?=some x:=by rw[←rc];exact hj
  rw[show row=r.cells.take o++ds++r.cells.drop (o+ds.length)from rfl,CF r.cells ds o ho j]at hj
  by_cases hin:o≤j∧j<o+ds.length
  ·rw[if_pos hin]at hj
   rw[if_pos (by omega)]
   have hlt2:j - o<vals.length:=by omega
   refine⟨vals[j - o],?_,E.Er (hd (j - o) x _ hj (List.getElem?_eq_getElem hlt2))⟩
   rw[←List.getElem?_eq_getElem hlt2]
   congr 1
   omega
  ·rw[if_neg hin]at hj
   rw[if_neg (by omega)]
   obtain⟨u,q1,q2⟩:=hcell i r j x hr hj
   rw[hxs,if_pos hpos]at q1
   exact⟨u,q1,E.Er q2⟩
 ·rw[←hrows,List.getElem?_set_ne (by omega)]at hi
  rw[if_neg]
  ·obtain⟨u,q1,q2⟩:=hcell i r' j x hi hj
   rw[hxs,if_pos hpos]at q1
   exact⟨u,q1,E.Er q2⟩
  ·rintro⟨q1,q2⟩
   rcases Nat.lt_or_gt_of_ne hik with hlt2 | hlt2
   ·have:=Nat.mul_le_mul_right sz (show i+1≤k from hlt2)
    rw[Nat.add_mul]at this
    omega
   ·have:=Nat.mul_le_mul_right sz (show k+1≤i from hlt2)
    rw[Nat.add_mul]at this
    omega
end
def eK (h:AE) (i:Id):Bool:=
 match h i with
 | some (.tree kd _ _ _ _)=>match kd with
  | .flat=>true
  | _=>false
 | _=>false
def K5 (x:AV) (h:AE):Bool:=
 match x with
 | .v (.c (.op i _ _ _))=>eK h i
 | .v (.c (.ow i))=>eK h i
 | _=>false
def K6 (x:AV) (h:AE) (K:Id→Bool→Nat→List D→Prop):Prop:=
 match x with
 | .v (.c (.ow id))=>match h id with
  | some (.tree kd ag sz rows foc)=>match kd with
   | .flat=>match foc with
    | none=>K id ag sz rows
    | some _=>False
   | _=>False
  | _=>False
 | _=>False
def Ha (x:AV) (h:AE) (K:Id→Bool→Nat→List D→Nat→Nat→Prop):Prop:=
 match x with
 | .v (.c (.op id sz kk o))=>match h id with
  | some (.tree kd ag sz' rows foc)=>match kd with
   | .flat=>match foc with
    | none=>Ay (Nat.beq sz' sz) (K id ag sz' rows kk o)
    | some _=>False
   | _=>False
  | _=>False
 | _=>False
def Ju (ti:Types) (t:TypeId) (x:AV) (h:AE) (k:Out→Prop):Prop:=
 Ac ti t fun i=>Ha x h fun id _ _ rows kk o=>∃r,rows[kk]?=some r∧Ay (Nat.ble (o+i.size) r.cells.length) (k ⟨.v (V1.AZ (AU i.desc) (((r.cells.drop o).take i.size).map CV.d)),[id],[]⟩)
def IU (ti:Types) (t:TypeId) (x y:AV) (h:AE) (k:Out→Prop):Prop:=
 Ac ti t fun i=>DI y fun y=>match y.norm with
 | .d d=>Ay (Nat.beq d.cells.length i.size)<| Ha x h fun id ag sz rows kk o=>∃r,rows[kk]?=some r∧Ay (Nat.ble (o+i.size) r.cells.length)
   (∃rows',rows.set kk (rowOf ag (r.cells.take o++d.cells++r.cells.drop (o+i.size)))=rows'∧k ⟨.u,[id],[(id,.tree .flat ag sz rows' none)]⟩)
 | _=>False
def Gb (ti:Types) (t:TypeId) (x:AV) (f:Nat) (h:AE) (k:Out→Prop):Prop:=
 Ac ti t fun i=>
 match i.desc with
 | .struct fs=>match fs[f]? with
  | some fd=>Ac ti fd.type fun j=>Ay (Nat.blt 0 j.size)<| Ha x h fun id _ sz _ kk o=>k ⟨.v (.c (.op id sz kk (o+fd.offset))),[id],[]⟩
  | none=>False
 | _=>False
def Jv (x:AV) (h:AE) (k:Out→Prop):Prop:=Ha x h fun id _ _ _ _ _=>k ⟨x,[id],[]⟩
def Gc (M:AY) (ti:Types) (t:TypeId) (x i:AV) (h:AE) (k:Out→Prop):Prop:=
 Cy i fun _ n=>Ac ti t fun q=>
 match q.desc with
 | .slice e=>Ac ti e fun j=>K6 x h fun id _ sz rows=>Ay (Nat.beq sz j.size)<| (M.lock fun _=>0≤n∧n.toNat<rows.length)∧k ⟨.v (.c (.op id sz n.toNat 0)),[id],[]⟩
 | _=>False
def Jw (M:AY) (ti:Types) (t:TypeId) (x:AV) (h:AE) (k:Out→Prop):Prop:=
 Ac ti t fun q=>match q.desc with
 | .slice _=>K6 x h fun id _ _ rows=>∃z:Int,M.lenI rows=z∧k ⟨.v (.d (.int .i64 z)),[id],[]⟩
 | _=>False
def YU (x:AV) (h:AE) (ag:Bool) (sz:Nat) (K:List Id→List D→Prop):Prop:=
 match x with
 | .v (.c (.nils _ _))=>K [] []
 | .v (.c (.ow i))=>match h i with
  | some (.tree kd ag' sz' rows foc)=>match foc with
   | none=>(match kd with
    | .flat=>Ay (ag'==ag) (Ay (Nat.beq sz' sz) (K [i] rows))
    | .row=>(match rows with
     | []=>Ay (ag'==ag) (Ay (Nat.beq sz' sz) (K [i] []))
     | _=>False)
    | _=>False)
   | some _=>False
  | _=>False
 | _=>False
def Hb (M:AY) (ti:Types) (t:TypeId) (x y:AV) (fresh:Nat) (h:AE) (k:Out→Prop):Prop:=
 Ac ti t fun q=>match q.desc with
 | .slice e=>Ac ti e fun j=>Ay (Nat.blt 0 j.size)<| YU x h (AU j.desc) j.size fun ids rows=>HJ y fun ag sz ys=>Ay (ag==AU j.desc)<| Ay (Nat.beq sz j.size)<|
   (M.lock fun _=>rows.length+ys.length≤maxLen∧(rows.length+ys.length)*j.bytes≤140737488355328)∧∃out,rows++ys=out∧
    k ⟨.v (.c (.ow (.loc fresh))),ids,Aa ids++[(.loc fresh,.tree .flat (AU j.desc) j.size out none)]⟩
 | _=>False
section
variable {C:Cx}{ti:Types}{o:Oper}{fresh:Nat}{s:AN}{h:AE}{k:Out→Prop}
theorem NY {x:AV}{K:Id→Bool→Nat→List D→Prop}(hk:K6 x h K):∃id ag sz rows,K id ag sz rows∧h id=some (.tree .flat ag sz rows none)∧
  ∀{w:World} {Z:Ad} {g:AL} {σh:AE} {u:Value},σh id=h id→An w Z g σh x u→u=gval (g id):=by
 unfold K6 at hk
 split at hk
 ·rename_i id
  split at hk
  ·rename_i kd ag sz rows foc hid
   split at hk
   ·split at hk
    ·refine⟨id,ag,sz,rows,hk,hid,fun hσ hr=>hr.2.2 (by rw[hσ,hid];rfl)⟩
    ·exact hk.elim
   ·exact hk.elim
  ·exact hk.elim
 ·exact hk.elim
theorem Gw {x:AV}{K:Id→Bool→Nat→List D→Nat→Nat→Prop}(hk:Ha x h K):∃id ag sz rows kk o,K id ag sz rows kk o∧h id=some (.tree .flat ag sz rows none)∧
  ∀{w:World} {Z:Ad} {g:AL} {σh:AE} {u:Value},σh id=h id→An w Z g σh x u→∃b,blk (gval (g id))=some b∧u= .pointer (some ⟨b,kk*sz+o,none⟩):=by
 unfold Ha at hk
 split at hk
 ·rename_i id sz kk o
  split at hk
  ·rename_i kd ag sz' rows foc hid
   split at hk
   ·split at hk
    ·obtain⟨h1,hk1⟩:=AA.1 hk
     have h1:=Nat.eq_of_beq_eq_true h1
     subst h1
     refine⟨id,ag,sz',rows,kk,o,hk1,hid,fun hσ hr=>hr.2.2 (by rw[hσ,hid];rfl)⟩
    ·exact hk.elim
   ·exact hk.elim
  ·exact hk.elim
 ·exact hk.elim
theorem YV (hti:Ao C.P ti) (h1:BB ti) (t:TypeId) (x:Operand) (ho:o.op= .load t x) (hk:Ju ti t (AP ti s 0 x) h k):∃out,k out∧A0 C o fresh s h out:=by
 unfold Ju at hk
 obtain⟨i,hi,hk⟩:=AF.1 hk
 obtain⟨id,ag,sz,rows,kk,oo,hk,hid,hpl⟩:=Gw hk
 obtain⟨r,hr,hk⟩:=hk
 obtain⟨hle,hk⟩:=AA.1 hk
 refine⟨_,hk,AG fun F σs σh g a w R hs hrd=>?_⟩
 have hσ:=hrd id (by simp)
 obtain⟨b,hb,hu⟩:=hpl hσ (AI ti 0 x R (s:=s) (fun k hk=>hs k (by subst hk;simp[ho,Op.operands])))
 obtain⟨v,hv,hrel⟩:=Wt hti h1 hi R (hσ.trans hid) hr hb (Nat.le_of_ble_eq_true hle)
 exact⟨v,by simp only[execOp,ho,hu];exact Bb hv,hrel⟩
theorem Wu (hti:Ao C.P ti) (t:TypeId) (x y:Operand) (ho:o.op= .store t x y) (hd:o.dst=none) (hk:IU ti t (AP ti s 0 x) (AP ti s t y) h k):∃out,k out∧A0 C o fresh s h out:=by
 unfold IU at hk
 obtain⟨i,hi,hk⟩:=AF.1 hk
 obtain⟨yv,hyv,hk⟩:=CS.1 hk
 split at hk
 ·rename_i d hnorm
  obtain⟨hlen,hk⟩:=AA.1 hk
  have hlen:=Nat.eq_of_beq_eq_true hlen
  obtain⟨id,ag,sz,rows,kk,oo,hk,hid,hpl⟩:=Gw hk
  obtain⟨r,hr,hk⟩:=hk
  obtain⟨hle,rows',hrows,hk⟩:=AA.1 hk
  have hle:=Nat.le_of_ble_eq_true hle
  refine⟨_,hk,?_⟩
  rintro F σs σh a w Q ⟨g,R⟩ hs hrd hF _
  have hσ:=hrd id (by simp)
  obtain⟨b,hb,hu⟩:=hpl hσ (AI ti 0 x R (s:=s) (fun k hk=>hs k (by subst hk;simp[ho,Op.operands])))
  have hy:=AI ti t y R (s:=s) (fun k hk=>hs k (by subst hk;simp[ho,Op.operands]))
  rw[hyv]at hy
  have hy:=Ag.norm (show Ag w _ g σh yv (a.eval y)from hy)
  rw[hnorm]at hy
  have hy:AX w (Al (zone g σh) C.X) d (a.eval y):=hy
  obtain⟨c1,c2⟩:=hy.cellsOf
  have hda:∀x∈d.cells,x.isAgg=false:=by
   intro x hx
   obtain⟨j,hj⟩:=List.mem_iff_getElem?.1 hx
   have hlt:=(List.getElem?_eq_some_iff.1 hj).1
   exact (c2 j x ((a.eval y).cells[j]'(by omega)) hj (by simp)).2
  have hone:∀v∈(a.eval y).cells.toList,v.oneCell'=true:=by
   intro v hv
   obtain⟨j,hj⟩:=List.mem_iff_getElem?.1 hv
   have hlt:=(List.getElem?_eq_some_iff.1 hj).1
   simp at hlt hj
   obtain⟨q1,q2⟩:=c2 j (d.cells[j]'(by omega)) v (by simp) (by simpa using hj)
   exact q1.BW q2
  obtain⟨c,e,p1,p2,R'⟩:=R.X0 (o:=oo) (rows':=rows') (hσ.trans hid) hr hb (ds:=d.cells) (vals:=(a.eval y).cells.toList) (by simpa using c1) (by omega) (fun j x u h1 h2=>(c2 j x u h1 (by simpa using h2)).1) hda (by rw[hlen];exact hrows)
  unfold Oper.wp
  rw[JB hti hi ho hu p1 (by rw[c1,hlen]) (by simp at p2;omega) hone]
  exact⟨g,(R'.put (dst:=o.dst) (v:=.u) (u:=undef) (fun d e=>by rw[hd]at e;cases e) trivial).AW (fun n hn=>(hn:F n∧_).1)⟩
 ·exact hk.elim
theorem Wv (hti:Ao C.P ti) (t:TypeId) (x:Operand) (f:Nat) (ho:o.op= .fieldAddr t x f) (hk:Gb ti t (AP ti s 0 x) f h k):∃out,k out∧A0 C o fresh s h out:=by
 unfold Gb at hk
 obtain⟨i,hi,hk⟩:=AF.1 hk
 split at hk
 ·rename_i fs hfs
  split at hk
  ·rename_i fd hfd
   obtain⟨j,hj,hk⟩:=AF.1 hk
   obtain⟨hpos,hk⟩:=AA.1 hk
   have hpos:j.size≠0:=by
    have:0<j.size:=by simpa using hpos
    omega
   obtain⟨id,ag,sz,rows,kk,oo,hk,hid,hpl⟩:=Gw hk
   refine⟨_,hk,AG fun F σs σh g a w R hs hrd=>?_⟩
   have hσ:=hrd id (by simp)
   obtain⟨b,hb,hu⟩:=hpl hσ (AI ti 0 x R (s:=s) (fun k hk=>hs k (by subst hk;simp[ho,Op.operands])))
   refine⟨.pointer (some ⟨b,kk*sz+oo+fd.offset,none⟩),?_,rfl,(R.heap.objs id _ (hσ.trans hid)).1,fun _=>⟨b,hb,by rw[Nat.add_assoc]⟩⟩
   have h1:=B2 hti hi w
   rw[hfs]at h1
   have h2:=Dl hti hj w
   simp only[execOp,ho,hu]
   refine Bb ?_
   simp[Instr.fieldAt,h1,hfd,Instr.sureAddr,fieldPlace,h2,hpos,BN]
  ·exact hk.elim
 ·exact hk.elim
theorem Qq (x:Operand) (ho:o.op= .nilCheck x) (hk:Jv (AP ti s 0 x) h k):∃out,k out∧A0 C o fresh s h out:=by
 obtain⟨id,ag,sz,rows,kk,oo,hk,hid,hpl⟩:=Gw hk
 refine⟨_,hk,AG fun F σs σh g a w R hs hrd=>?_⟩
 have hσ:=hrd id (by simp)
 have hx:=AI ti 0 x R (s:=s) (fun k hk=>hs k (by subst hk;simp[ho,Op.operands]))
 obtain⟨b,hb,hu⟩:=hpl hσ hx
 exact⟨a.eval x,by simp[execOp,ho,hu],hx⟩
theorem Holds.WY {w:World}{sz:Nat}{v:Value}{n:Nat}{xs:List Value}(h:Holds w .flat sz v n xs):Holds w .row sz v n xs:=h
theorem Holds.toFlat {w:World}{sz:Nat}{v:Value}{n:Nat}{xs:List Value}(h:Holds w .row sz v n xs):Holds w .flat sz v n xs:=h
theorem Ww (hti:Ao C.P ti) (t:TypeId) (x y:Operand) (ho:o.op= .indexAddr t x y) (hk:Gc C.M ti t (AP ti s t x) (AP ti s 3 y) h k):∃out,k out∧A0 C o fresh s h out:=by
 unfold Gc at hk
 obtain⟨q,n,hyv,hk⟩:=B6.1 hk
 obtain⟨i,hi,hk⟩:=AF.1 hk
 split at hk
 ·rename_i e hdesc
  obtain⟨j,hj,hk⟩:=AF.1 hk
  obtain⟨id,ag,sz,rows,hk,hid,hrel⟩:=NY hk
  obtain⟨hsz,hlk,hk⟩:=AA.1 hk
  obtain⟨h0,hlt⟩:=(C.M.lock_iff _).1 hlk
  have hsz:=Nat.eq_of_beq_eq_true hsz
  refine⟨_,hk,AG fun F σs σh g a w R hs hrd=>?_⟩
  have hσ:=hrd id (by simp)
  have hv:=hrel hσ (AI ti t x R (s:=s) (fun k hk=>hs k (by subst hk;simp[ho,Op.operands])))
  have hn:=AI ti 3 y R (s:=s) (fun k hk=>hs k (by subst hk;simp[ho,Op.operands]))
  rw[hyv]at hn
  have hn:=ET hn
  obtain⟨ht,h0',hf,xs,hx,_⟩:=Jt (R.heap.objs id _ (hσ.trans hid))
  obtain⟨A,cap,hg,hcap,hmax,hA⟩:=hx.WY.row
  obtain⟨b,rfl⟩:=hA (by omega)
  rw[hg]at hv
  refine⟨.pointer (some ⟨b,n.toNat*sz,none⟩),?_,rfl,ht,fun _=>⟨b,by rw[hg];rfl,by simp⟩⟩
  have h1:=B2 hti hi w
  rw[hdesc]at h1
  have h2:=Dl hti hj w
  have h3:0≤n∧n<(rows.length:Int):=by omega
  simp only[execOp,ho]
  refine Bb ?_
  simp[Instr.indexAt,asIntOf,h1,h2,hv,hn,h3,BN,Instr.sureAddr,hsz]
 ·exact hk.elim
theorem cC (hti:Ao C.P ti) (t:TypeId) (x:Operand) (ho:o.op= .call {callee:=.builtin .len,args:=#[x],argTypes:=#[t]}) (hk:Jw C.M ti t (AP ti s t x) h k):∃out,k out∧A0 C o fresh s h out:=by
 unfold Jw at hk
 obtain⟨i,hi,hk⟩:=AF.1 hk
 split at hk
 ·rename_i e hdesc
  obtain⟨id,ag,sz,rows,hk,hid,hrel⟩:=NY hk
  obtain⟨z,hz,hk⟩:=hk
  refine⟨_,hk,AG fun F σs σh g a w R hs hrd=>?_⟩
  have hσ:=hrd id (by simp)
  have hv:=hrel hσ (AI ti t x R (s:=s) (fun k hk=>hs k (by subst hk;simp[ho,Op.operands,Call.operands])))
  obtain⟨ht,h0',hf,xs,hx,_⟩:=Jt (R.heap.objs id _ (hσ.trans hid))
  obtain⟨A,cap,hg,_⟩:=hx.WY.row
  rw[hg]at hv
  rw[←hz,C.M.lenI_eq]
  refine⟨.int .i64 rows.length,?_,.int _ _⟩
  have h1:=B2 hti hi w
  rw[hdesc]at h1
  simp[execOp,ho,resolve,invoke,builtin,Builtin.len_,h1,hv,goInt]
 ·exact hk.elim
structure kQ (w:World) (X Z:Ad) (g:AL) (σh:AE) (ag:Bool) (sz:Nat) (ids:List Id) (rows:List D) (u:Value):Prop where
 whole:∀i∈ids,∃ob,σh i=some ob∧B7 ob
 own:(∀r∈rows,r.fits ag sz)∧∃xs,Holds w .flat sz u rows.length xs∧(∀(i:Nat) r (j:Nat) c,rows[i]?=some r→r.cells[j]?=some c→∃u,xs[i*sz+j]?=some u∧AX w (Al (zone g σh) X) c u)∧(∀b,blk u=some b→∃i∈ids,BC (g i) b)
theorem cD {x:AV}{ag:Bool}{sz:Nat}{K:List Id→List D→Prop}(hk:YU x h ag sz K):
  ∃ids rows,K ids rows∧ids.Nodup∧∀{w:World} {X:Ad} {g:AL} {σh:AE} {u:Value},C9 w X g σh→(∀i∈ids,σh i=h i)→An w (Al (zone g σh) X) g σh x u→kQ w X (zone g σh) g σh ag sz ids rows u:=by
 unfold YU at hk
 split at hk
 ·refine⟨[],[],hk,List.nodup_nil,fun _ _ hr=>⟨by simp,by simp,[],?_⟩⟩
  rw[show _=_ from hr]
  exact⟨⟨0,World.ownsRow_nil _ 0 0 sz⟩,by simp,by simp[blk]⟩
 ·rename_i i
  split at hk
  ·rename_i kd ag' sz' rows foc hid
   split at hk
   ·split at hk
    ·obtain⟨h1,hk1⟩:=AA.1 hk
     obtain⟨h2,hk2⟩:=AA.1 hk1
     have h1:ag'=ag:=by simpa using h1
     have h2:=Nat.eq_of_beq_eq_true h2
     subst h1
     subst h2
     refine⟨[i],rows,hk2,by simp,fun RH he hr=>?_⟩
     have hσ:=he i (by simp)
     have hv:=hr.2.2 (by rw[hσ,hid];rfl)
     obtain⟨ht,h0',hf,xs,hx,hc,hb⟩:=Jt (RH.objs i _ (hσ.trans hid))
     refine⟨fun j hj=>?_,hf,xs,by rw[hv];exact hx,hc,fun b hbb=>⟨i,by simp,(hb b).2 (by rw[←hv];exact hbb)⟩⟩
     obtain rfl:j=i:=by simpa using hj
     exact⟨_,hσ.trans hid,trivial⟩
    ·split at hk
     ·obtain⟨h1,hk1⟩:=AA.1 hk
      obtain⟨h2,hk2⟩:=AA.1 hk1
      have h1:ag'=ag:=by simpa using h1
      have h2:=Nat.eq_of_beq_eq_true h2
      subst h1
      subst h2
      refine⟨[i],[],hk2,by simp,fun RH he hr=>?_⟩
      have hσ:=he i (by simp)
      have hv:=hr.2.2 (by rw[hσ,hid];rfl)
      obtain⟨ht,h0',hf,xs,hx,_,U,T,h1,h2,h3,h4,h5⟩:=RH.objs i _ (hσ.trans hid)
      refine⟨fun j hj=>?_,by simp,xs,by rw[hv];exact hx.toFlat,by simp,fun b hbb=>⟨i,by simp,(h5 b).2 (.inl (by rw[←hv];exact hbb))⟩⟩
      obtain rfl:j=i:=by simpa using hj
      exact⟨_,hσ.trans hid,trivial⟩
     ·exact hk.elim
    ·exact hk.elim
   ·exact hk.elim
  ·exact hk.elim
 ·exact hk.elim
theorem S4 (hti:Ao C.P ti) (h1:BB ti) (t:TypeId) (x y:Operand) (ho:o.op= .call {callee:=.builtin .append,args:=#[x,y],argTypes:=#[t,t]}) (hk:Hb C.M ti t (AP ti s t x) (AP ti s t y) fresh h k):∃out,k out∧A0 C o fresh s h out:=by
 unfold Hb at hk
 obtain⟨q,hq,hk⟩:=AF.1 hk
 split at hk
 ·rename_i e hd
  obtain⟨j,hj,hk⟩:=AF.1 hk
  obtain⟨hsz,hk⟩:=AA.1 hk
  have hsz:0<j.size:=by simp[Nat.blt]at hsz;omega
  obtain⟨ids,rows,hk,hnd,hold⟩:=cD hk
  obtain⟨ag',sz',ys,hyrel,hk1⟩:=D4 hk
  obtain⟨e1,hk2⟩:=AA.1 hk1
  obtain⟨e2,hk3⟩:=AA.1 hk2
  have e1:ag'=AU j.desc:=by simpa using e1
  have e2:=Nat.eq_of_beq_eq_true e2
  subst e1
  subst e2
  obtain⟨hlk,out,rfl,hk⟩:=hk3
  obtain⟨hmax,hbytes⟩:=(C.M.lock_iff _).1 hlk
  refine⟨_,hk,?_⟩
  rintro F σs σh a w Q ⟨g,R⟩ hs hrd hF hdst
  have hx:=AI ti t x R (s:=s) (fun k hk=>hs k (by subst hk;simp[ho,Op.operands,Call.operands]))
  have hy:=AI ti t y R (s:=s) (fun k hk=>hs k (by subst hk;simp[ho,Op.operands,Call.operands]))
  obtain⟨w1,hf,xs,p1,p2,p4⟩:=hold R.heap (fun i hi=>hrd i hi) hx
  have hyd:=hyrel hy
  obtain⟨A,cap,hv,_⟩:=IM hyd
  rw[hv]at hyd
  obtain⟨_,_,_,hA,hfy,news,n1,n2,n3,n4⟩:=hyd.Fi hsz
  have q2:0<ys.length→∃bb oo,A=some ⟨bb,oo,none⟩∧∀(k:Nat) u,news[k]?=some u→w.cell? ⟨bb,oo+k,none⟩=some u:=by
   intro h0
   obtain⟨b,o,rfl⟩:=hA (fun e=>by rw[e]at h0;simp at h0)
   exact⟨b,o,rfl,fun k u hu=>(n3 b o rfl k u hu).1⟩
  obtain⟨v',w',hrun,r1,r2,r3,r4⟩:=FH hti (ty:=o.type) hq hd hj hsz p1.WY (B:=A) (c:=cap) n1 q2 n2 hmax hbytes
  have hlx:xs.length=rows.length*j.size:=p1.len
  have hlt:∀b,(∃i∈ids,BC (g i) b)→b<w.heap.size:=by
   rintro b ⟨i,hi,hb⟩
   obtain⟨ob,o1,o2⟩:=w1 i hi
   exact (R.heap.objs i ob o1).lt (o2.F7 hb)
  obtain⟨g',R',hrel⟩:=R.SQ (T0:=ids) w1 (n:=fresh) (hF 0 (by omega)) r2 (fun b hb hn=>r3 b hb fun he=>by
    obtain⟨i,hi,hb'⟩:=p4 b he
    exact hn i hi hb') (kd:=.flat) (ag:=AU j.desc) (sz:=j.size) (out:=rows++ys) (v:=v') (fun b=>blk v'=some b) (blk v').toList (fun b hb=>by simp[hb]) (fun b hb=>by
     rcases r4 b hb with hb | hb
     ·exact .inl (p4 b hb)
     ·exact .inr hb) r1.BW
   (fun Z' g' h' gv gt gg gb hmono=>Qo gt hsz (fun r hr=>by
     rcases List.mem_append.1 hr with hr | hr
     ·exact hf r hr
     ·exact hfy r hr) (xs:=xs++news) (by rw[gg,List.length_append];exact r1.toFlat) (fun i r q c hi hc=>by
     have hq:q<j.size:=by
      have hfit:r.fits (AU j.desc) j.size:=by
       rcases List.mem_append.1 (List.mem_of_getElem? hi)with hr | hr
       ·exact hf r hr
       ·exact hfy r hr
      rw[←hfit.2.1];exact (List.getElem?_eq_some_iff.1 hc).1
     by_cases hil:i<rows.length
     ·rw[List.getElem?_append_left hil]at hi
      obtain⟨u,u1,u2⟩:=p2 i r q c hi hc
      refine⟨u,?_,hmono u2⟩
      rw[List.getElem?_append_left (List.getElem?_eq_some_iff.1 u1).1]
      exact u1
     ·rw[List.getElem?_append_right (by omega)]at hi
      obtain⟨u,u1,u2⟩:=n4 (i - rows.length) r q c hi hc
      refine⟨u,?_,hmono u2⟩
      have e3:i*j.size+q=rows.length*j.size+((i - rows.length)*j.size+q):=by
       rw[Nat.sub_mul]
       have:=Nat.mul_le_mul_right j.size (show rows.length≤i by omega)
       omega
      rw[e3,List.getElem?_append_right (by omega),hlx,Nat.add_sub_cancel_left]
      exact u1) (fun b=>by rw[gb,gg]))
  unfold Oper.wp
  rw[CH (r:=.ok v' w') ho (by rw[hv];exact hrun)]
  rw[show Aq σh (Aa ids++[(.loc fresh,.tree .flat (AU j.desc) j.size (rows++ys) none)])=AJ (Aq σh (Aa ids)) (.loc fresh) (.tree .flat (AU j.desc) j.size (rows++ys) none)from Cz]
  exact⟨g',(R'.put hdst (v:=.v (.c (.ow (.loc fresh)))) hrel).AW (fun n hn=>⟨hn.1,fun e=>hn.2 (by omega)⟩)⟩
 ·exact hk.elim
end
end Go.AM
namespace Go.AM
open Go Go.RowKit
def Jx (z:Int):Nat→List Kw→Option (Nat×Kw)
 | _,[]=>none
 | k,r::rs=>if r.1=z then some (k,r)else Jx z (k+1) rs
theorem Hc {kk:IntKind}{z:Int}:∀{rows:List Kw}{ms:List MapEntry}(i:Nat),ms.length=rows.length→(∀(k:Nat) x e,rows[k]?=some x→ms[k]?=some e→e.key= .int .i64 x.1)→
  (Jx z i rows=none∧Instr.findNow (.int kk) (.int .i64 z) ms i=some none)∨
   ∃(q:Nat) (row:Kw) (e:MapEntry),Jx z i rows=some (i+q,row)∧rows[q]?=some row∧ms[q]?=some e∧Instr.findNow (.int kk) (.int .i64 z) ms i=some (some (i+q,e.val))
 | [],[],i,_,_=>.inl ⟨rfl,rfl⟩
 | r::rs,m::ms,i,hl,h=>by
  have hk:=h 0 r m rfl rfl
  by_cases he:r.1=z
  ·refine .inr ⟨0,r,m,by simp[Jx,he],rfl,rfl,?_⟩
   simp[Instr.findNow,Instr.sameNow,hk,he]
  ·have hne:(z==r.1)=false:=beq_eq_false_iff_ne.2 fun e=>he e.symm
   rcases Hc (kk:=kk) (z:=z) (rows:=rs) (ms:=ms) (i+1) (by simpa using hl) (fun k x e h1 h2=>h (k+1) x e (by simpa using h1) (by simpa using h2))with⟨h1,h2⟩ | ⟨q,row,e,h1,h2,h3,h4⟩
   ·exact .inl ⟨by simp[Jx,he,h1],by simp[Instr.findNow,Instr.sameNow,hk,hne,h2]⟩
   ·refine .inr ⟨q+1,row,e,?_,by simpa using h2,by simpa using h3,?_⟩
    ·rw[Jx,if_neg he,h1];congr 2;omega
    ·simp only[Instr.findNow,Instr.sameNow,hk,if_true,hne,h4]
     congr 3;omega
 | [],_::_,_,h,_=>by simp at h
 | _::_,[],_,h,_=>by simp at h
section
variable {C:Cx}{F:Nat→Prop}{s:AN}{h h':AE}{g:AL}{a:Act}{w w':World}
theorem AR.UQ {h':AE}{g':AL}{F':Nat→Prop}(R:AR C F s h g a w) (T:Id→Prop)
  (hsame:∀i,¬T i→h' i=h i∧g' i=g i)
  (hT:∀i,T i→g' i=g i∨(isTu (g i)∧isTu (g' i)∧gval (g' i)=gval (g i))∨g i=undef)
  (hlv:∀i,T i→isTu (g i)→isLive (h' i)=true→isLive (h i)=true)
  (hnew:∀i ob,T i→h' i=some ob→∀n sz e,ob≠ .tok n sz e)
  (hobj:∀i o,T i→h' i=some o→(∀{x:CV} {v:Value},Au w (Al (zone g h) C.X) g h x v→Au w (Al (zone g' h') C.X) g' h' x v)→
   (∀{x:D} {v:Value},AX w (Al (zone g h) C.X) x v→AX w (Al (zone g' h') C.X) x v)→BH w (Al (zone g' h') C.X) g' h' o (g' i))
  (hblk:∀i ob b,T i→h' i=some ob→EM (g' i) ob b→∃j o0,T j∧h j=some o0∧(∀o,BL (g j) o0 b o))
  (hsep:∀i j oi oj b,T i→T j→h' i=some oi→h' j=some oj→EM (g' i) oi b→EM (g' j) oj b→i=j)
  (hext:∀j,T (.ext j)→CQ (g (.ext j)) (g' (.ext j)))
  (hfree:∀n,F' n→g' (.loc n)=undef∧h' (.loc n)=none):AR C F' s h' g' a w:=by
 have hz:∀b o,Al (zone g' h') C.X b o→Al (zone g h) C.X b o:=by
  rintro b o (⟨i,ob,hi,h1⟩ | hx)
  ·by_cases ti:T i
   ·obtain⟨j,o0,_,hj,hb⟩:=hblk i ob b ti hi h1.F7
    exact .inl ⟨j,_,hj,hb o⟩
   ·rw[(hsame i ti).1]at hi
    rw[(hsame i ti).2]at h1
    exact .inl ⟨i,ob,hi,h1⟩
  ·exact .inr hx
 have Fj:∀i,¬isTu (g i)→g i≠undef→g' i=g i:=fun i h1 h2=>by
  by_cases ti:T i
  ·rcases hT i ti with h | h | h
   ·exact h
   ·exact absurd h.1 h1
   ·exact absurd h h2
  ·exact (hsame i ti).2
 have E:Gp w (Al (zone g h) C.X) g h w (Al (zone g' h') C.X) g' h':=by
  refine⟨fun b o u hu hn=>⟨hu,fun hy=>hn (hz b o hy)⟩,fun i b hb=>?_,fun i q hq=>?_,fun i hi=>?_,fun i n sz e hi hk=>?_,fun i hi=>?_,fun i hi hl=>?_⟩
  ·exact Fj i (fun h=>by rw[hb]at h;obtain⟨_,_,h,_⟩:=h;cases h) (by rw[hb];simp[undef])
  ·exact Fj i (fun h=>by rw[hq]at h;obtain⟨_,_,h,_⟩:=h;cases h) (by rw[hq];simp[undef])
  ·rw[Fj i (Cb hi) (fun h=>by rw[h]at hi;exact hi)];exact hi
  ·have e1:=Fj i (Cb hi) (fun h=>by rw[h]at hi;exact hi)
   by_cases ti:T i
   ·exact absurd rfl (hnew i _ ti hk n sz e)
   ·rw[(hsame i ti).1]at hk
    exact⟨n,Nat.le_refl _,hk,fun _=>e1⟩
  ·by_cases ti:T i
   ·rcases hT i ti with h | h | h
    ·rw[h];exact hi
    ·exact h.2.1
    ·rw[h]at hi;exact (Aw hi).elim
   ·rw[(hsame i ti).2];exact hi
  ·by_cases ti:T i
   ·refine⟨hlv i ti hi hl,?_⟩
    rcases hT i ti with h | h | h
    ·rw[h]
    ·exact h.2.2
    ·rw[h]at hi;exact (Aw hi).elim
   ·rw[(hsame i ti).1]at hl
    exact⟨hl,by rw[(hsame i ti).2]⟩
 refine R.step T E ⟨rfl,rfl,rfl,Nat.le_refl _,fun _ _ _=>rfl,fun _ _ _ hu _=>hu⟩ hsame (fun _ _ _ _ _ _=>rfl) (fun i o ti ho=>hobj i o ti ho E.IJ E.Er) (fun i ob b o ti hi h1=>?_) hsep hext hfree
 obtain⟨j,o0,tj,hj,hb⟩:=hblk i ob b ti hi h1.F7
 exact .inl ⟨j,_,tj,hj,hb o⟩
theorem AR.jY (R:AR C F s h g a w) {i:Id}{n1 sz n:Nat}{rows:List Kw}(hi:h i=some (.pmap n1 sz n rows none)) {k:Nat}{row:Kw}(hk:rows[k]?=some row) {q:Nat}(hf:F q):
  ∃g',AR C (fun x=>F x∧x≠q) s (AJ (AJ h i (.pmap n1 sz n rows (some (k,.loc q)))) (.loc q) (.arr (row.2.1.map CV.d) true sz row.2.2 [])) g' a w∧
   ∀r m clock e,gval (g i)= .map (some r)→w.heap[r]?=some (.map m clock)→m[k]?=some e→g' (.loc q)=e.val∧∃b,e.val= .pointer (some ⟨b,0,none⟩):=by
 obtain⟨hgn,hhn⟩:=R.free q hf
 have hiq:i≠ .loc q:=by rintro rfl;rw[hhn]at hi;cases hi
 obtain⟨ht,r,m,clock,B,hv,hh,hs,hbn,h1,h2,h3,h4,h5,h6⟩:=R.heap.objs i _ hi
 have hlt:=(List.getElem?_eq_some_iff.1 hk).1
 obtain⟨l,hl⟩:=BC.fin (g i)
 obtain⟨gv,gt,gg,gb⟩:=MM (gval (g i)) l (fun b=>BC (g i) b∧b≠B k) (fun b hb=>hl b hb.1)
 let g':AL:=Ah (Ah g i gv) (.loc q) (.pointer (some ⟨B k,0,none⟩))
 have gi:g' i=gv:=by simp[g',Ah,hiq]
 have gq:g' (.loc q)= .pointer (some ⟨B k,0,none⟩):=by simp[g',Ah]
 have go:∀j,j≠i→j≠ .loc q→g' j=g j:=fun j h1 h2=>by simp[g',Ah,h1,h2]
 have hBk:BC (g i) (B k):=(h6 _).2 (.inr ⟨k,hlt,(by simp),rfl⟩)
 have hi':AJ (AJ h i (.pmap n1 sz n rows (some (k,.loc q)))) (.loc q) (.arr (row.2.1.map CV.d) true sz row.2.2 []) i=some (.pmap n1 sz n rows (some (k,.loc q))):=by simp[AJ,hiq]
 have hq':AJ (AJ h i (.pmap n1 sz n rows (some (k,.loc q)))) (.loc q) (.arr (row.2.1.map CV.d) true sz row.2.2 []) (.loc q)=some (.arr (row.2.1.map CV.d) true sz row.2.2 []):=by simp[AJ]
 refine⟨g',R.UQ (fun j=>j=i∨j= .loc q) (fun j hj=>?_) ?_ ?_ ?_ ?_ ?_ ?_ ?_ ?_,fun r' m' clock' e hv' hh' he=>?_⟩
 ·simp only[not_or]at hj
  exact⟨by simp[AJ,hj.1,hj.2],go j hj.1 hj.2⟩
 ·rintro j (rfl | rfl)
  ·exact .inr (.inl ⟨ht,by rw[gi];exact gt,by rw[gi,gg]⟩)
  ·exact .inr (.inr hgn)
 ·rintro j (rfl | rfl) ht' _
  ·rw[hi];rfl
  ·rw[hgn]at ht';exact (Aw ht').elim
 ·rintro j ob (rfl | rfl) ho n' sz' e
  ·rw[hi']at ho;cases ho;simp
  ·rw[hq']at ho;cases ho;simp
 ·rintro j o (rfl | rfl) ho EC ED
  ·rw[hi']at ho
   cases ho
   rw[gi]
   refine⟨gt,r,m,clock,B,by rw[gg];exact hv,hh,hs,hbn,h1,fun k' j' hk'=>?_,fun k' x hx hk'=>?_,h4,h5,fun b=>?_⟩
   ·cases hk'
    exact⟨hlt,gq⟩
   ·exact (h3 k' x hx (by simp)).mono rfl ED
   ·rw[gb,h6]
    constructor
    ·rintro⟨h | ⟨k',q1,q2,q3⟩,hne⟩
     ·exact .inl h
     ·refine .inr ⟨k',q1,fun j' hj'=>?_,q3⟩
      cases hj'
      exact hne q3
    ·rintro (h | ⟨k',q1,q2,q3⟩)
     ·exact⟨.inl h,fun hb=>h5 k hlt (hb▸h)⟩
     ·refine⟨.inr ⟨k',q1,by simp,q3⟩,fun hb=>?_⟩
      have:=h4 k' k q1 hlt (q3▸hb)
      subst this
      exact q2 _ rfl
  ·rw[hq']at ho
   cases ho
   rw[gq]
   obtain⟨p0,c,e,p3,p4,p5,p6⟩:=h3 k row hk (by simp)
   refine⟨p0,B k,c,e,rfl,p3,by simpa using p4,fun j x u hx hu=>?_,fun i r j x hr hx=>?_,by simp⟩
   ·simp only[List.getElem?_map,Option.map_eq_some_iff]at hx
    obtain⟨x',hx',rfl⟩:=hx
    exact⟨ED (p5 j x' u hx' hu).1,(p5 j x' u hx' hu).2⟩
   ·obtain⟨u,hu,hd⟩:=p6 i r j x hr hx
    exact⟨u,by simpa using hu,ED hd⟩
 ·rintro j ob b (rfl | rfl) ho hb
  ·rw[hi']at ho
   cases ho
   rw[gi]at hb
   exact⟨j,_,.inl rfl,hi,fun _=>((gb b).1 hb).1⟩
  ·rw[hq']at ho
   cases ho
   rw[gq]at hb
   have:B k=b:=BC.ptr hb
   subst this
   exact⟨i,_,.inl rfl,hi,fun _=>hBk⟩
 ·have key:∀b,BC (g' i) b→BC (g' (.loc q)) b→False:=by
   intro b hb hb'
   rw[gi]at hb
   rw[gq]at hb'
   exact ((gb b).1 hb).2 (BC.ptr hb').symm
  rintro j j' oj oj' b (rfl | rfl) (rfl | rfl) ho ho' hb hb'
  ·rfl
  ·exact (key b hb.blk hb'.blk).elim
  ·exact (key b hb'.blk hb.blk).elim
  ·rfl
 ·rintro j (hj | hj)
  ·subst hj
   exact .inr ⟨ht,by rw[gi];exact gt,by rw[gi,gg]⟩
  ·cases hj
 ·rintro x ⟨hx,hxq⟩
  have h7:=R.free x hx
  have n1:Id.loc x≠i:=by rintro rfl;rw[h7.2]at hi;cases hi
  have n2:Id.loc x≠ .loc q:=by simp[hxq]
  exact⟨(go _ n1 n2).trans h7.1,by simp[AJ,n1,n2,hxq,h7.2]⟩
 ·rw[hv]at hv'
  cases hv'
  rw[hh]at hh'
  cases hh'
  obtain⟨_,p⟩:=h1 k row e hk he
  exact⟨by rw[gq,p],B k,p⟩
theorem AR.eH (R:AR C F s h g a w) {i j:Id}{n1 sz n k:Nat}{rows rows':List Kw}(hi:h i=some (.pmap n1 sz n rows (some (k,j)))) {ds L:List D}(hj:h j=some (.arr (ds.map CV.d) true sz L []))
  (hr:(rows.modify k fun r=>(r.1,ds,L))=rows'):
  ∃g',AR C F s (AJ (AJ h i (.pmap n1 sz n rows' none)) j .gone) g' a w:=by
 have hij:i≠j:=by rintro rfl;rw[hi]at hj;cases hj
 obtain⟨ht,r,m,clock,B,hv,hh,hs,hbn,h1,h2,h3,h4,h5,h6⟩:=R.heap.objs i _ hi
 obtain⟨hlt,hgj⟩:=h2 k j rfl
 obtain⟨p0,b0,c0,e0,q1,q2,q3,q4,q5,_⟩:=R.heap.objs j _ hj
 rw[hgj]at q1
 obtain rfl:B k=b0:=by simpa using q1
 obtain⟨l,hl⟩:=BC.fin (g i)
 obtain⟨gv,gt,gg,gb⟩:=MM (gval (g i)) (B k::l) (fun b=>BC (g i) b∨b=B k) (fun b hb=>by
  rcases hb with hb | hb
  ·exact List.mem_cons_of_mem _ (hl b hb)
  ·exact List.mem_cons.2 (.inl hb))
 have hlen:rows'.length=rows.length:=by rw[←hr];simp
 have hat:∀(k':Nat) x,rows'[k']?=some x→∃x0,rows[k']?=some x0∧x.1=x0.1∧(k'=k→x.2=(ds,L))∧(k'≠k→x=x0):=by
  intro k' x hx
  rw[←hr,List.getElem?_modify]at hx
  by_cases hk:k=k'
  ·subst hk
   cases hx0:rows[k]? with
   | none=>simp[hx0]at hx
   | some x0=>
    simp[hx0]at hx
    subst hx
    exact⟨x0,rfl,rfl,fun _=>rfl,fun h=>absurd rfl h⟩
  ·exact⟨x,by simpa [hk] using hx,rfl,fun h=>absurd h.symm hk,fun _=>rfl⟩
 have hi':AJ (AJ h i (.pmap n1 sz n rows' none)) j .gone i=some (.pmap n1 sz n rows' none):=by simp[AJ,hij]
 have hj':AJ (AJ h i (.pmap n1 sz n rows' none)) j .gone j=some .gone:=by simp[AJ]
 have gi:Ah g i gv i=gv:=by simp[Ah]
 have go:∀x,x≠i→Ah g i gv x=g x:=fun x hx=>by simp[Ah,hx]
 refine⟨Ah g i gv,R.UQ (fun x=>x=i∨x=j) (fun x hx=>?_) ?_ ?_ ?_ ?_ ?_ ?_ ?_ ?_⟩
 ·simp only[not_or]at hx
  exact⟨by simp[AJ,hx.1,hx.2],go x hx.1⟩
 ·rintro x (rfl | rfl)
  ·exact .inr (.inl ⟨ht,by rw[gi];exact gt,by rw[gi,gg]⟩)
  ·exact .inl (go x hij.symm)
 ·rintro x (rfl | rfl) _ hl
  ·rw[hi];rfl
  ·rw[hj']at hl;cases hl
 ·rintro x ob (rfl | rfl) ho n' sz' e
  ·rw[hi']at ho;cases ho;simp
  ·rw[hj']at ho;cases ho;simp
 ·rintro x o (rfl | rfl) ho EC ED
  ·rw[hi']at ho
   cases ho
   rw[gi]
   refine⟨gt,r,m,clock,B,by rw[gg];exact hv,hh,by rw[hlen];exact hs,hbn,fun k' y e hy he=>?_,(by simp),fun k' y hy _=>?_,by rw[hlen];exact h4,by rw[hlen];exact h5,fun b=>?_⟩
   ·obtain⟨x0,a1,a2,_⟩:=hat k' y hy
    rw[a2]
    exact h1 k' x0 e a1 he
   ·obtain⟨x0,a1,a2,a3,a4⟩:=hat k' y hy
    by_cases hk:k'=k
    ·subst hk
     have a3:=a3 rfl
     rw[a3]
     refine⟨p0,c0,e0,q2,by simpa using q3,fun z x u hx hu=>?_,fun z r' y' x hr' hx=>?_⟩
     ·exact EC (q4 z (.d x) u (by simp[hx]) hu)
     ·obtain⟨u,hu,hdd⟩:=q5 z r' y' x hr' hx
      exact⟨u,by simpa using hu,ED hdd⟩
    ·rw[a4 hk]
     exact (h3 k' x0 a1 (fun j' hj'=>by cases hj';exact hk rfl)).mono rfl ED
   ·rw[gb,h6,hlen]
    constructor
    ·rintro ((h | ⟨k',a1,a2,a3⟩) | h)
     ·exact .inl h
     ·exact .inr ⟨k',a1,by simp,a3⟩
     ·exact .inr ⟨k,hlt,by simp,h⟩
    ·rintro (h | ⟨k',a1,_,a3⟩)
     ·exact .inl (.inl h)
     ·by_cases hk:k'=k
      ·exact .inr (hk▸a3)
      ·exact .inl (.inr ⟨k',a1,fun j' hj'=>(by cases hj';exact hk rfl),a3⟩)
  ·rw[hj']at ho
   cases ho
   trivial
 ·rintro x ob b (rfl | rfl) ho hb
  ·rw[hi']at ho
   cases ho
   rw[gi]at hb
   rcases (gb b).1 hb with hb | hb
   ·exact⟨x,_,.inl rfl,hi,fun _=>hb⟩
   ·refine⟨j,_,.inr rfl,hj,fun _=>?_⟩
    show BC (g j) b
    rw[hgj,hb]
    exact .inl rfl
  ·rw[hj']at ho
   cases ho
   exact hb.elim
 ·rintro x x' ox ox' b (rfl | rfl) (rfl | rfl) ho ho' hb hb'
  ·rfl
  ·rw[hj']at ho';cases ho';exact hb'.elim
  ·rw[hj']at ho;cases ho;exact hb.elim
  ·rfl
 ·rintro x (hx | hx)
  ·subst hx
   exact .inr ⟨ht,by rw[gi];exact gt,by rw[gi,gg]⟩
  ·rw[go _ (by rw[hx];exact hij.symm)]
   exact .refl _
 ·intro x hx
  have h7:=R.free x hx
  have n1:Id.loc x≠i:=by rintro rfl;rw[h7.2]at hi;cases hi
  have n2:Id.loc x≠j:=by rintro rfl;rw[h7.2]at hj;cases hj
  exact⟨(go _ n1).trans h7.1,by simp[AJ,n1,n2,h7.2]⟩
theorem AR.bE (R:AR C F s h g a w) {i:Id}{n1 sz n:Nat}{rows rows':List Kw}(hi:h i=some (.pmap n1 sz n rows none)) {T0:List Id}(hT0:∀j∈T0,j≠i∧∃ob,h j=some ob∧(∀b,BC (g j) b→∀o,BL (g j) ob b o)∧¬HM (g j))
  {r:Nat} {m m':Array MapEntry} {clock clock':Nat} (hv:gval (g i)= .map (some r)) (hh:w.heap[r]?=some (.map m clock)) (P:Nat→Prop) (hP:∀b,P b→BC (g i) b∨∃j∈T0,BC (g j) b)
  (hrel:∀(w':World) (Z':Ad) (g':AL) (h':AE) (gv:Value),isTu gv→gval gv=gval (g i)→(∀b,BC gv b↔P b)→w'.heap[r]?=some (.map m' clock')→(∀b,b≠r→w'.heap[b]?=w.heap[b]?)→
   (∀{x:D} {u:Value},AX w (Al (zone g h) C.X) x u→AX w' Z' x u)→BH w' Z' g' h' (.pmap n1 sz n rows' none) gv):
  ∃g',AR C F s (AJ (Aq h (Aa T0)) i (.pmap n1 sz n rows' none)) g' a {w with heap:=w.heap.setIfInBounds r (.map m' clock')}:=by
 obtain⟨ht,r0,m0,clock0,B,hv0,hh0,_,_,_,_,_,_,_,h6⟩:=R.heap.objs i _ hi
 rw[hv]at hv0
 cases hv0
 have hri:BC (g i) r:=(h6 r).2 (.inl rfl)
 obtain⟨l1,hl1⟩:=BC.fin (g i)
 obtain⟨l2,hl2⟩:=BC.Vi (g:=g) T0
 obtain⟨gv,gt,gg,gb⟩:=MM (gval (g i)) (l1++l2) P (fun b hb=>by
  rcases hP b hb with hb | ⟨j,hj,hb⟩
  ·exact List.mem_append.2 (.inl (hl1 b hb))
  ·exact List.mem_append.2 (.inr (hl2 j hj b hb)))
 have hiT:i∉T0:=fun hm=>(hT0 i hm).1 rfl
 let h':AE:=AJ (Aq h (Aa T0)) i (.pmap n1 sz n rows' none)
 let g':AL:=Ah g i gv
 have hh':∀x,h' x=if x=i then some (.pmap n1 sz n rows' none)else if x∈T0 then some .gone else h x:=fun x=>by
  show (if x=i then _ else Aq h (Aa T0) x)=_
  rw[E5]
 have gi:g' i=gv:=by simp[g',Ah]
 have go:∀x,x≠i→g' x=g x:=fun x hx=>by simp[g',Ah,hx]
 have hlt:r<w.heap.size:=(Array.getElem?_eq_some_iff.1 hh).1
 let w':World:={w with heap:=w.heap.setIfInBounds r (.map m' clock')}
 have hother:∀b,b≠r→w'.heap[b]?=w.heap[b]?:=fun b hb=>by
  show (w.heap.setIfInBounds r (.map m' clock'))[b]?=_
  rw[Array.getElem?_setIfInBounds]
  simp[Ne.symm hb]
 have hself:w'.heap[r]?=some (.map m' clock'):=by
  show (w.heap.setIfInBounds r (.map m' clock'))[r]?=_
  rw[Array.getElem?_setIfInBounds]
  simp[hlt]
 have hcell:∀b o u,w.cell? ⟨b,o,none⟩=some u→w'.cell? ⟨b,o,none⟩=some u:=by
  intro b o u hu
  have hne:b≠r:=by
   rintro rfl
   simp[World.cell?,hh]at hu
  simpa [World.cell?,hother b hne] using hu
 have hPz:∀b o,P b→zone g h b o:=by
  intro b o hb
  rcases hP b hb with hb | ⟨j,hj,hb⟩
  ·exact⟨i,_,hi,hb⟩
  ·obtain⟨_,ob,o1,o2,_⟩:=hT0 j hj
   exact⟨j,ob,o1,o2 b hb o⟩
 have hz:∀b o,zone g' h' b o→zone g h b o:=by
  rintro b o ⟨x,ob,hx,h1⟩
  rw[hh']at hx
  by_cases hxi:x=i
  ·subst hxi
   rw[if_pos rfl]at hx
   cases hx
   rw[gi]at h1
   exact hPz b o ((gb b).1 h1)
  ·rw[if_neg hxi]at hx
   by_cases hxT:x∈T0
   ·rw[if_pos hxT]at hx
    cases hx
    exact h1.elim
   ·rw[if_neg hxT]at hx
    rw[go x hxi]at h1
    exact⟨x,ob,hx,h1⟩
 have tn:∀{x:Id} {v:Value},g x=v→(∀vs,v≠ .tuple vs)→x≠i:=by
  rintro x v hx hn rfl
  obtain⟨vs,_,h,_⟩:=ht
  exact hn vs (hx▸h)
 have E:Gp w (Al (zone g h) C.X) g h w' (Al (zone g' h') C.X) g' h':=by
  refine⟨fun b o u hu hn=>⟨hcell b o u hu,?_⟩,fun x b hb=>go x (tn hb (by simp)),fun x q hq=>go x (tn hq (by simp)),fun x hx=>?_,fun x k sz' e' hx hk=>?_,fun x hx=>?_,fun x hx hl=>?_⟩
  ·rintro (hx | hx)
   ·exact hn (.inl (hz b o hx))
   ·exact hn (.inr hx)
  ·have:x≠i:=by rintro rfl;exact Cb hx ht
   rw[go x this];exact hx
  ·rw[hh']at hk
   by_cases hxi:x=i
   ·rw[if_pos hxi]at hk;cases hk
   ·rw[if_neg hxi]at hk
    by_cases hxT:x∈T0
    ·rw[if_pos hxT]at hk;cases hk
    ·rw[if_neg hxT]at hk
     exact⟨k,Nat.le_refl _,hk,fun _=>go x hxi⟩
  ·by_cases hxi:x=i
   ·rw[hxi,gi];exact gt
   ·rw[go x hxi];exact hx
  ·rw[hh']at hl
   by_cases hxi:x=i
   ·subst hxi
    exact⟨by rw[hi];rfl,by rw[gi,gg]⟩
   ·rw[if_neg hxi]at hl
    by_cases hxT:x∈T0
    ·rw[if_pos hxT]at hl;cases hl
    ·rw[if_neg hxT]at hl
     exact⟨hl,by rw[go x hxi]⟩
 refine⟨g',R.step (fun x=>x=i∨x∈T0) E ⟨rfl,rfl,rfl,by simp,fun b _ hzn=>hother b ?_,fun b o u hu _=>hcell b o u hu⟩ ?_ ?_ ?_ ?_ ?_ ?_ ?_⟩
 ·rintro rfl
  exact hzn 0 ⟨i,_,hi,hri⟩
 ·intro x hx
  simp only[not_or]at hx
  exact⟨by rw[show AJ (Aq h (Aa T0)) i (.pmap n1 sz n rows' none) x=_ from hh' x,if_neg hx.1,if_neg hx.2],go x hx.1⟩
 ·intro x o b hx ho hb
  simp only[not_or]at hx
  refine hother b ?_
  rintro rfl
  exact hx.1 (R.heap.sep x i o _ _ ho hi hb hri)
 ·rintro x o tx ho
  replace ho:=(hh' x).symm.trans ho
  by_cases hxi:x=i
  ·rw[if_pos hxi]at ho
   cases ho
   subst hxi
   rw[gi]
   exact hrel w' _ _ _ gv gt gg gb hself hother E.Er
  ·rw[if_neg hxi]at ho
   rcases tx with tx | tx
   ·exact absurd tx hxi
   ·rw[if_pos tx]at ho
    cases ho
    trivial
 ·rintro x ob b o tx ho h1
  replace ho:=(hh' x).symm.trans ho
  by_cases hxi:x=i
  ·rw[if_pos hxi]at ho
   cases ho
   subst hxi
   rw[gi]at h1
   rcases hP b ((gb b).1 h1)with hb | ⟨j,hj,hb⟩
   ·exact .inl ⟨x,_,.inl rfl,hi,hb⟩
   ·obtain⟨_,ob',o1,o2,_⟩:=hT0 j hj
    exact .inl ⟨j,ob',.inr hj,o1,o2 b hb o⟩
  ·rw[if_neg hxi]at ho
   rcases tx with tx | tx
   ·exact absurd tx hxi
   ·rw[if_pos tx]at ho
    cases ho
    exact h1.elim
 ·rintro x x' ox ox' b tx tx' ho ho' hb hb'
  replace ho:=(hh' x).symm.trans ho
  replace ho':=(hh' x').symm.trans ho'
  by_cases hxi:x=i
  ·by_cases hxi':x'=i
   ·rw[hxi,hxi']
   ·rw[if_neg hxi']at ho'
    rcases tx' with tx' | tx'
    ·exact absurd tx' hxi'
    ·rw[if_pos tx']at ho'
     cases ho'
     exact hb'.elim
  ·rw[if_neg hxi]at ho
   rcases tx with tx | tx
   ·exact absurd tx hxi
   ·rw[if_pos tx]at ho
    cases ho
    exact hb.elim
 ·intro j tj
  by_cases hj:Id.ext j=i
  ·rw[hj]
   exact .inr ⟨ht,by rw[gi];exact gt,by rw[gi,gg]⟩
  ·rw[go _ hj]
   exact .refl _
 ·intro x hx
  have h7:=R.free x hx
  have e1:Id.loc x≠i:=by rintro rfl;rw[h7.2]at hi;cases hi
  have e2:Id.loc x∉T0:=by
   intro hm
   obtain⟨_,ob,o1,_⟩:=hT0 _ hm
   rw[h7.2]at o1
   cases o1
  exact⟨(go _ e1).trans h7.1,by rw[show AJ (Aq h (Aa T0)) i (.pmap n1 sz n rows' none) (.loc x)=_ from hh' _,if_neg e1,if_neg e2];exact h7.2⟩
end
end Go.AM
namespace Go.AM
open Go Go.RowKit
section
variable {C:Cx}{F:Nat→Prop}{s:AN}{h h':AE}{g:AL}{a:Act}{w w':World}
theorem AR.mP (R:AR C F s h g a w) {T0:List Id}(hT:∀i∈T0,∃ob,h i=some ob∧B7 ob) {n:Nat}(hf:F n)
  (hos:w'.os=w.os∧w'.tape=w.tape∧w'.output=w.output∧w.heap.size≤w'.heap.size)
  (hblk:∀b,b<w.heap.size→(∀i∈T0,¬BC (g i) b)→w'.heap[b]?=w.heap[b]?)
  {n1 sz m:Nat} {v:Value} (P:Nat→Prop) (l:List Nat) (hl:∀b,P b→b∈l) (hP:∀b,P b→(∃i∈T0,BC (g i) b)∨w.heap.size≤b) (hv:v.oneCell'=true)
  (hrel:∀(Z':Ad) (g':AL) (h':AE) (gv:Value),isTu gv→gval gv=v→(∀b,BC gv b↔P b)→(∀{x:D} {u:Value},AX w (Al (zone g h) C.X) x u→AX w' Z' x u)→BH w' Z' g' h' (.pmap n1 sz m [] none) gv):
  ∃g',AR C (fun k=>F k∧k≠n) s (AJ (Aq h (Aa T0)) (.loc n) (.pmap n1 sz m [] none)) g' a w'∧
   Au w' (Al (zone g' (AJ (Aq h (Aa T0)) (.loc n) (.pmap n1 sz m [] none))) C.X) g' (AJ (Aq h (Aa T0)) (.loc n) (.pmap n1 sz m [] none)) (.ow (.loc n)) v:=by
 obtain⟨hgn,hhn⟩:=R.free n hf
 obtain⟨gv,gt,gg,gb⟩:=MM v l P hl
 have hnT:Id.loc n∉T0:=by
  intro hm
  obtain⟨_,h1,_⟩:=hT _ hm
  rw[hhn]at h1
  cases h1
 let h':AE:=AJ (Aq h (Aa T0)) (.loc n) (.pmap n1 sz m [] none)
 let g':AL:=Ah g (.loc n) gv
 have hh:∀i,h' i=if i= .loc n then some (.pmap n1 sz m [] none)else if i∈T0 then some .gone else h i:=fun i=>by
  show (if i= .loc n then _ else Aq h (Aa T0) i)=_
  rw[E5]
 have gn:g' (.loc n)=gv:=by simp[g',Ah]
 have go:∀i,i≠ .loc n→g' i=g i:=fun i hi=>by simp[g',Ah,hi]
 have tuT:∀i∈T0,¬HM (g i):=by
  intro i hi
  obtain⟨_,h1,h2⟩:=hT i hi
  exact h2.mO (R.heap.objs i _ h1)
 have zT:∀i∈T0,∀b o,BC (g i) b→zone g h b o:=by
  intro i hi b o hb
  obtain⟨_,h1,h2⟩:=hT i hi
  exact⟨i,_,h1,h2.zone hb⟩
 have hcell:∀b o u,w.cell? ⟨b,o,none⟩=some u→¬zone g h b o→w'.cell? ⟨b,o,none⟩=some u:=by
  intro b o u hu hn
  exact (World.cell?_of_block (a:=⟨b,o,none⟩) (hblk b (World.block_lt_of_cell? w ⟨b,o,none⟩ hu) (fun i hi hb=>hn (zT i hi b o hb)))).trans hu
 have hz:∀b o,Al (zone g' h') C.X b o→Al (zone g h) C.X b o∨w.heap.size≤b:=by
  rintro b o (⟨i,ob,hi,h1⟩ | hx)
  ·rw[hh]at hi
   by_cases hin:i= .loc n
   ·rw[if_pos hin]at hi
    cases hi
    subst hin
    have h1:BC (g' (.loc n)) b:=h1
    rw[gn]at h1
    rcases hP b ((gb b).1 h1)with⟨j,hj,hb⟩ | hb
    ·exact .inl (.inl (zT j hj b o hb))
    ·exact .inr hb
   ·rw[if_neg hin]at hi
    rw[go i hin]at h1
    by_cases hiT:i∈T0
    ·rw[if_pos hiT]at hi
     cases hi
     exact h1.elim
    ·rw[if_neg hiT]at hi
     exact .inl (.inl ⟨i,ob,hi,h1⟩)
  ·exact .inl (.inr hx)
 have nfree:∀{i:Id},g i≠undef→i≠ .loc n:=by
  rintro i hu rfl
  exact hu hgn
 have E:Gp w (Al (zone g h) C.X) g h w' (Al (zone g' h') C.X) g' h':=by
  refine⟨fun b o u hu hn=>⟨hcell b o u hu (fun hy=>hn (.inl hy)),fun hy=>?_⟩,fun i b hb=>go i (nfree (by rw[hb];simp[undef])),fun i q hq=>go i (nfree (by rw[hq];simp[undef])),fun i hi=>?_,fun i k sz' e hi hk=>?_,fun i hi=>?_,fun i hi hlv=>?_⟩
  ·have:=World.block_lt_of_cell? w ⟨b,o,none⟩ hu
   simp at this
   rcases hz b o hy with h1 | h1
   ·exact hn h1
   ·omega
  ·rw[go i (nfree fun e=>by rw[e]at hi;exact hi)];exact hi
  ·have hin:i≠ .loc n:=nfree fun e=>by rw[e]at hi;exact hi
   rw[hh,if_neg hin]at hk
   have hiT:i∉T0:=fun hm=>tuT i hm hi
   rw[if_neg hiT]at hk
   exact⟨k,Nat.le_refl _,hk,fun _=>go i hin⟩
  ·rw[go i (nfree fun e=>Aw (e▸hi))];exact hi
  ·have hin:i≠ .loc n:=nfree fun e=>Aw (e▸hi)
   rw[hh,if_neg hin]at hlv
   by_cases hiT:i∈T0
   ·rw[if_pos hiT]at hlv
    cases hlv
   ·rw[if_neg hiT]at hlv
    exact⟨hlv,by rw[go i hin]⟩
 refine⟨g',R.step (F':=fun k=>F k∧k≠n) (fun i=>i= .loc n∨i∈T0) E ⟨hos.1,hos.2.1,hos.2.2.1,hos.2.2.2,fun b hb hn=>hblk b hb (fun i hi hbb=>hn 0 (zT i hi b 0 hbb)),hcell⟩ (fun i hi=>?_) (fun i o b hi ho hb=>?_) (fun i o ti ho=>?_) (fun i ob b o ti ho h1=>?_)
  (fun i j oi oj b ti tj ho ho' hb hb'=>?_) (fun j hj=>?_) (fun k hk=>?_),?_⟩
 ·simp only[not_or]at hi
  exact⟨by rw[show AJ (Aq h (Aa T0)) (.loc n) (.pmap n1 sz m [] none) i=_ from hh i,if_neg hi.1,if_neg hi.2],go i hi.1⟩
 ·simp only[not_or]at hi
  refine hblk b ((R.heap.objs i o ho).lt hb) (fun j hj hbb=>?_)
  obtain⟨_,h1,h2⟩:=hT j hj
  exact hi.2 (R.heap.sep i j o _ b ho h1 hb (h2.F7 hbb)▸hj)
 ·replace ho:=(hh i).symm.trans ho
  by_cases hin:i= .loc n
  ·rw[if_pos hin]at ho
   cases ho
   subst hin
   rw[gn]
   exact hrel _ _ _ gv gt gg gb E.Er
  ·rw[if_neg hin]at ho
   rcases ti with ti | ti
   ·exact absurd ti hin
   ·rw[if_pos ti]at ho
    cases ho
    trivial
 ·replace ho:=(hh i).symm.trans ho
  by_cases hin:i= .loc n
  ·rw[if_pos hin]at ho
   cases ho
   subst hin
   have h1:BC (g' (.loc n)) b:=h1
   rw[gn]at h1
   rcases hP b ((gb b).1 h1)with⟨j,hj,hb⟩ | hb
   ·obtain⟨_,h2,h3⟩:=hT j hj
    exact .inl ⟨j,_,.inr hj,h2,h3.zone hb⟩
   ·exact .inr hb
  ·rw[if_neg hin]at ho
   rcases ti with ti | ti
   ·exact absurd ti hin
   ·rw[if_pos ti]at ho
    cases ho
    exact h1.elim
 ·replace ho:=(hh i).symm.trans ho
  replace ho':=(hh j).symm.trans ho'
  by_cases hin:i= .loc n
  ·by_cases hjn:j= .loc n
   ·rw[hin,hjn]
   ·rw[if_neg hjn]at ho'
    rcases tj with tj | tj
    ·exact absurd tj hjn
    ·rw[if_pos tj]at ho'
     cases ho'
     exact hb'.elim
  ·rw[if_neg hin]at ho
   rcases ti with ti | ti
   ·exact absurd ti hin
   ·rw[if_pos ti]at ho
    cases ho
    exact hb.elim
 ·rw[go (.ext j) (by simp)]
  exact .refl _
 ·obtain⟨hk1,hk2⟩:=hk
  have h6:=R.free k hk1
  have hkT:Id.loc k∉T0:=by
   intro hm
   obtain⟨_,h1,_⟩:=hT _ hm
   rw[h6.2]at h1
   cases h1
  have hne:Id.loc k≠ .loc n:=by simp[hk2]
  exact⟨(go _ hne).trans h6.1,by rw[show AJ (Aq h (Aa T0)) (.loc n) (.pmap n1 sz m [] none) (.loc k)=_ from hh _,if_neg hne,if_neg hkT];exact h6.2⟩
 ·exact⟨hv,by rw[gn];exact gt,fun _=>by rw[gn,gg]⟩
end
section
variable {C:Cx}{ti:Types}{o:Oper}{fresh:Nat}{s:AN}{h:AE}{k:Out→Prop}
def Wx (x:AV) (h:AE):Bool:=
 match x with
 | .v (.c (.ow i))=>(match h i with
  | some (.pmap ..)=>true
  | _=>false)
 | _=>false
def K7 (x:AV) (h:AE) (K:Id→Nat→Nat→Nat→List Kw→Prop):Prop:=
 match x with
 | .v (.c (.ow id))=>(match h id with
  | some (.pmap n1 sz n rows foc)=>(match foc with
   | none=>K id n1 sz n rows
   | some _=>False)
  | _=>False)
 | _=>False
theorem Gx {x:AV}{K:Id→Nat→Nat→Nat→List Kw→Prop}(hk:K7 x h K):∃id n1 sz n rows,K id n1 sz n rows∧h id=some (.pmap n1 sz n rows none)∧
  ∀{w:World} {Z:Ad} {g:AL} {σh:AE} {u:Value},σh id=h id→An w Z g σh x u→u=gval (g id):=by
 unfold K7 at hk
 split at hk
 ·rename_i id
  split at hk
  ·rename_i n1 sz n rows foc hid
   split at hk
   ·exact⟨id,n1,sz,n,rows,hk,hid,fun hσ hr=>hr.2.2 (by rw[hσ,hid];rfl)⟩
   ·exact hk.elim
  ·exact hk.elim
 ·exact hk.elim
def NZ (ti:Types) (kt:TypeId) (key:AV) (K:Int→Prop):Prop:=
 Ac ti kt fun kk=>match kk.desc with
 | .int _=>(match key with
  | .v (.d (.int q z))=>(match q with
   | .i64=>K z
   | _=>False)
  | _=>False)
 | _=>False
theorem JF {kt:TypeId}{key:AV}{K:Int→Prop}(hk:NZ ti kt key K):∃kk q z,ti kt=some kk∧kk.desc= .int q∧key= .v (.d (.int .i64 z))∧K z:=by
 unfold NZ at hk
 obtain⟨kk,hkk,hk⟩:=AF.1 hk
 split at hk
 ·rename_i q hd
  split at hk
  ·split at hk
   ·exact⟨kk,q,_,hkk,hd,rfl,hk⟩
   ·exact hk.elim
  ·exact hk.elim
 ·exact hk.elim
theorem YW {w:World}{Z:Ad}{q:IntKind}{z:Int}{v:Value}(hy:AX w Z (.int q z) v):v= .int q z:=by cases hy;rfl
def YX (ti:Types) (t:TypeId):Bool:=
 match ti t with
 | some q=>(match q.desc with
  | .map _ et=>(match ti et with
   | some j=>(match j.desc with
    | .pointer _=>true
    | _=>false)
   | none=>false)
  | _=>false)
 | none=>false
def Fv (ti:Types) (t:TypeId) (fresh:Nat) (k:Out→Prop):Prop:=
 Ac ti t fun q=>match q.desc with
 | .map _ _=>∃n1 sz n:Nat,k ⟨.v (.c (.ow (.loc fresh))),[],[(.loc fresh,.pmap n1 sz n [] none)]⟩
 | _=>False
theorem S5 (t:TypeId) (ho:o.op= .makeMap t none) (hk:Fv ti t fresh k):∃out,k out∧A0 C o fresh s h out:=by
 unfold Fv at hk
 obtain⟨q,hq,hk⟩:=AF.1 hk
 split at hk
 ·rename_i kt et hd
  obtain⟨n1,sz,n,hk⟩:=hk
  refine⟨_,hk,?_⟩
  rintro F σs σh a w Q ⟨g,R⟩ hs hrd hF hdst
  have hrun:(execOp a.eval o).run C.P w= .ok (.value (.map (some w.heap.size))) (w.alloc (.map #[] 0)):=by
   simp[execOp,ho,Instr.makeMap]
  obtain⟨g',R',hrel⟩:=R.mP (T0:=[]) (n:=fresh) (w':=w.alloc (.map #[] 0)) (by simp) (hF 0 (by omega)) ⟨rfl,rfl,rfl,by simp⟩ (fun b hb _=>Below.heap_alloc w _ b hb) (n1:=n1) (sz:=sz) (m:=n)
   (v:=.map (some w.heap.size)) (fun b=>b=w.heap.size) [w.heap.size] (by simp) (fun b hb=>.inr (by omega)) rfl
   (fun Z' g' h' gv gt gg gb _=>⟨gt,w.heap.size,#[],0,fun _=>0,gg,heap_alloc_new w _,rfl,by simp,by simp,by simp,by simp,by simp,by simp,fun b=>by rw[gb];simp⟩)
  unfold Oper.wp
  rw[hrun]
  exact⟨g',(R'.put hdst (v:=.v (.c (.ow (.loc fresh)))) hrel).AW (fun n hn=>⟨hn.1,fun e=>hn.2 (by omega)⟩)⟩
 ·exact hk.elim
def JG (M:AY) (ti:Types) (t:TypeId) (x key:AV) (ok:Bool) (h:AE) (fresh:Nat) (k:Out→Prop):Prop:=
 Ac ti t fun q=>match q.desc with
 | .map kt et=>NZ ti kt key fun z=>Ac ti et fun j=>Ay (FE j)<| Ay (BQ (AU j.desc))<| Ay (BQ ok)<| (match j.zc with
  | [.nilp]=>K7 x h fun id n1 sz n rows=>∃r,(M.lock fun _=>Jx z 0 rows=r)∧(match r with
   | none=>k ⟨.v (.c .nilp),[id],[]⟩
   | some kr=>k ⟨.v (.c (.ptr (.loc fresh) 0)),[id],[(id,.pmap n1 sz n rows (some (kr.1,.loc fresh))),(.loc fresh,.arr (kr.2.2.1.map CV.d) true sz kr.2.2.2 [])]⟩)
  | _=>False)
 | _=>False
theorem Uj (hti:Ao C.P ti) (t:TypeId) (x y:Operand) (ok:Bool) (ho:o.op= .lookup t x y ok) (hk:JG C.M ti t (AP ti s t x) (AP ti s 0 y) ok h fresh k):∃out,k out∧A0 C o fresh s h out:=by
 unfold JG at hk
 obtain⟨q,hq,hk⟩:=AF.1 hk
 split at hk
 rotate_left
 ·exact hk.elim
 rename_i kt et hd
 obtain⟨kk,qi,z,hkk,hkd,hop,hk⟩:=JF hk
 obtain⟨j,hj,hk⟩:=AF.1 hk
 obtain⟨hz0,hk⟩:=AA.1 hk
 obtain⟨hrow,hk⟩:=AA.1 hk
 obtain⟨hok,hk⟩:=AA.1 hk
 obtain rfl:ok=false:=by cases ok<;>simp[BQ]at hok ⊢
 have hrow:AU j.desc=false:=by revert hrow;cases AU j.desc<;>simp[BQ]
 split at hk
 rotate_left
 ·exact hk.elim
 rename_i hzc
 obtain⟨id,n1,sz,n,rows,hk,hid,hrel⟩:=Gx hk
 obtain⟨r,hl,hk⟩:=hk
 have hfind:=(C.M.lock_iff _).1 hl
 have base:∀F σs σh g a w,AR C F σs σh g a w→(∀t,Operand.tmp t∈o.op.operands.toList→σs t=s t)→σh id=h id→
   ∃(rr:Nat) (m:Array MapEntry) (clock:Nat),gval (g id)= .map (some rr)∧w.heap[rr]?=some (.map m clock)∧m.size=rows.length∧(∀(k:Nat) x e,rows[k]?=some x→m.toList[k]?=some e→e.key= .int .i64 x.1)∧
    ∀v,(Instr.findNow kk.desc (.int .i64 z) m.toList 0=some v)→(execOp a.eval o).run C.P w= .ok (.value (match v with | some p=>p.2 | none=>.pointer none)) w:=by
  intro F σs σh g a w R hs hσ
  have hx:=AI ti t x R (s:=s) (fun t ht=>hs t (by subst ht;simp[ho,Op.operands]))
  have hy:=AI ti 0 y R (s:=s) (fun t ht=>hs t (by subst ht;simp[ho,Op.operands]))
  rw[hop]at hy
  have hy:AX w (Al (zone g σh) C.X) (.int .i64 z) (a.eval y):=hy
  have hv:=hrel hσ hx
  obtain⟨ht,rr,m,clock,B,g1,g2,g3,g4,g5,_⟩:=R.heap.objs id _ (hσ.trans hid)
  rw[g1]at hv
  have hyv:a.eval y= .int .i64 z:=YW hy
  have e1:=B2 hti hq w
  rw[hd]at e1
  have e2:=B2 hti hkk w
  obtain⟨ii,i1,i2,i3,i4,i5⟩:=CT hti hj
  have e3:(zeroValue et).run C.P w= .ok j.zero w:=by simp[zeroValue,typeInfo,i1,i4]
  have e4:∀b,(Instr.checkKey b 10000 kt (a.eval y)).run C.P w= .ok () w:=fun b=>EZ (hti kt kk hkk).1 (by rw[hkd];rfl) hy b 9999
  have e5:=D6 (P:=C.P) g2
  have hzero:j.zero= .pointer none:=by
   have:=YO hti hj hz0 w (Al (zone g σh) C.X) g σh
   rw[hrow,hzc]at this
   exact this
  refine⟨rr,m,clock,g1,g2,g3,fun k x e hx he=>(g5 k x e hx (by simpa using he)).1,fun v hfn=>?_⟩
  cases v with
  | none=>simp[execOp,ho,Instr.lookup,e1,hv,e5,e4,Instr.findKey,e2,hyv▸hfn,e3,hzero]
  | some p=>simp[execOp,ho,Instr.lookup,e1,hv,e5,e4,Instr.findKey,e2,hyv▸hfn]
 cases r with
 | none=>
  refine⟨_,hk,AG fun F σs σh g a w R hs hrd=>?_⟩
  obtain⟨rr,m,clock,b1,b2,b3,b4,b5⟩:=base F σs σh g a w R hs (hrd id (by simp))
  rcases Hc (kk:=qi) (z:=z) (rows:=rows) (ms:=m.toList) 0 (by simpa using b3) b4 with⟨_,h2⟩ | ⟨q',row,e,h1,_⟩
  ·exact⟨_,b5 none (by rw[hkd];exact h2),rfl⟩
  ·rw[h1]at hfind;cases hfind
 | some kr=>
  refine⟨_,hk,?_⟩
  rintro F σs σh a w Q ⟨g,R⟩ hs hrd hF hdst
  have hσ:=hrd id (by simp)
  obtain⟨rr,m,clock,b1,b2,b3,b4,b5⟩:=base F σs σh g a w R hs hσ
  rcases Hc (kk:=qi) (z:=z) (rows:=rows) (ms:=m.toList) 0 (by simpa using b3) b4 with⟨h1,_⟩ | ⟨q',row,e,h1,h2,h3,h4⟩
  ·rw[h1]at hfind;cases hfind
  ·rw[h1]at hfind
   cases hfind
   have hrun:=b5 (some (0+q',e.val)) (by rw[hkd];exact h4)
   simp only[Nat.zero_add]at*
   obtain⟨g',R',hg⟩:=R.jY (hσ.trans hid) h2 (q:=fresh) (hF 0 (by omega))
   obtain⟨hg1,b,hg2⟩:=hg rr m clock e b1 b2 (by simpa using h3)
   unfold Oper.wp
   rw[hrun]
   exact⟨g',(R'.put hdst (v:=.v (.c (.ptr (.loc fresh) 0))) (u:=e.val) ⟨⟨b,by rw[hg1,hg2]⟩,by rw[hg1,hg2];rfl⟩).AW (fun n hn=>⟨hn.1,fun e=>hn.2 (by omega)⟩)⟩
def Qr (ti:Types) (op:BinOp) (t:TypeId) (x y:AV) (h:AE) (k:Out→Prop):Prop:=
 match y with
 | .v (.c .nilm)=>Ac ti t fun q=>(match q.desc with
  | .map _ _=>K7 x h fun id _ _ _ _=>Dz op false fun d=>k ⟨.v (.d d),[id],[]⟩
  | _=>False)
 | _=>False
theorem cE (hti:Ao C.P ti) (op:BinOp) (t t':TypeId) (x y:Operand) (ho:o.op= .binOp op t x y t') (hk:Qr ti op t (AP ti s t x) (AP ti s t y) h k):∃out,k out∧A0 C o fresh s h out:=by
 unfold Qr at hk
 split at hk
 rotate_left
 ·exact hk.elim
 rename_i hy0
 obtain⟨q,hq,hk⟩:=AF.1 hk
 split at hk
 rotate_left
 ·exact hk.elim
 rename_i kt et hd
 obtain⟨id,n1,sz,n,rows,hk,hid,hrel⟩:=Gx hk
 have hu:C.P.underlying t=some (.map kt et):=by rw[(hti t q hq).1,hd]
 have run:∀F σs σh g a w,AR C F σs σh g a w→(∀t,Operand.tmp t∈o.op.operands.toList→σs t=s t)→(∀i∈[id],σh i=h i)→∃b,a.eval x= .map (some b)∧a.eval y= .map none:=by
  intro F σs σh g a w R hs hrd
  have hx:=AI ti t x R (s:=s) (fun k hk=>hs k (by subst hk;simp[ho,Op.operands]))
  have hy:=AI ti t y R (s:=s) (fun k hk=>hs k (by subst hk;simp[ho,Op.operands]))
  rw[hy0]at hy
  have hσ:=hrd id (by simp)
  have hv:=hrel hσ hx
  obtain⟨ht,b,m,clock,B,g1,_⟩:=R.heap.objs id _ (hσ.trans hid)
  rw[g1]at hv
  exact⟨b,hv,hy⟩
 unfold Dz at hk
 split at hk
 ·refine⟨_,hk,AG fun F σs σh g a w R hs hrd=>?_⟩
  obtain⟨b,h1,h2⟩:=run F σs σh g a w R hs hrd
  exact⟨.bool false,by simp[execOp,ho,h1,h2,eqGuard,binOp,CG hu],.bool _⟩
 ·refine⟨_,hk,AG fun F σs σh g a w R hs hrd=>?_⟩
  obtain⟨b,h1,h2⟩:=run F σs σh g a w R hs hrd
  exact⟨.bool true,by simp[execOp,ho,h1,h2,eqGuard,binOp,CG hu],.bool _⟩
 ·exact hk.elim
def JH (M:AY) (ti:Types) (t:TypeId) (x key y:AV) (h:AE) (k:Out→Prop):Prop:=
 Ac ti t fun q=>match q.desc with
 | .map kt _=>NZ ti kt key fun z=>(match y with
  | .v (.c (.ptr j p))=>Ay (Nat.beq p 0)<| K7 x h fun id n1 sz n rows=>(match h j with
   | some (.cells cs)=>(match I9 cs with
    | some ds=>Ay (Nat.beq ds.length (n1+n*sz))<| (M.lock fun _=>Jx z 0 rows=none)∧∃rows',rows++[(z,ds.take n1,rowsOf true sz n (ds.drop n1))]=rows'∧k ⟨.u,[id,j],[(j,.gone),(id,.pmap n1 sz n rows' none)]⟩
    | none=>False)
   | _=>False)
  | _=>False)
 | _=>False
theorem cF {w:World}{Z:Ad}{g:AL}{h:AE}{cs:List CV}{ds:List D}{n1 sz n b:Nat}{c:Array Value}{e:TypeId}(hds:I9 cs=some ds) (hl:ds.length=n1+n*sz) (hh:w.heap[b]?=some (.cells c e (0,0))) (hc:c.size=cs.length)
  (hr:∀(j:Nat) x u,cs[j]?=some x→c[j]?=some u→Au w Z g h x u):Jh w Z (ds.take n1) sz (rowsOf true sz n (ds.drop n1)) b:=by
 obtain⟨al,ar⟩:=GL (w:=w) (Z:=Z) (g:=g) (h:=h) hds
 have cell:∀(j:Nat) x u,ds[j]?=some x→c[j]?=some u→AX w Z x u∧x.isAgg=false:=by
  intro j x u hx hu
  have hlt:=(List.getElem?_eq_some_iff.1 hx).1
  obtain⟨y,hy⟩:∃y,cs[j]?=some y:=⟨_,List.getElem?_eq_getElem (by omega)⟩
  exact ar j x y u hx hy (hr j y u hy hu)
 have row:∀(i:Nat) r,(rowsOf true sz n (ds.drop n1))[i]?=some r→i<n∧r= .agg (((ds.drop n1).drop (i*sz)).take sz):=fun i r h=>D1 h
 have hag:∀d∈ds,d.isAgg=false:=by
  intro d hd
  obtain⟨j,hj⟩:=List.mem_iff_getElem?.1 hd
  have hlt:=(List.getElem?_eq_some_iff.1 hj).1
  exact (cell j d c[j] hj (by simp)).2
 refine⟨fun r hr'=>?_,c,e,hh,?_,fun j x u hx hu=>?_,fun i r j x hr' hx=>?_⟩
 ·obtain⟨i,hi⟩:=List.mem_iff_getElem?.1 hr'
  obtain⟨hin,rfl⟩:=row i r hi
  refine⟨rfl,?_,fun d hd=>hag d ?_⟩
  ·show (((ds.drop n1).drop (i*sz)).take sz).length=sz
   have:=Nat.mul_le_mul_right sz (show i+1≤n from hin)
   rw[Nat.add_mul]at this
   simp
   omega
  ·exact List.mem_of_mem_drop (List.mem_of_mem_drop (List.mem_of_mem_take hd))
 ·rw[D2,hc,←al]
  simp
  omega
 ·rw[List.getElem?_take]at hx
  split at hx
  ·exact cell j x u hx hu
  ·cases hx
 ·obtain⟨hin,rfl⟩:=row i r hr'
  have hx:(((ds.drop n1).drop (i*sz)).take sz)[j]?=some x:=hx
  rw[List.getElem?_take]at hx
  split at hx
  ·rename_i hj
   rw[List.getElem?_drop,List.getElem?_drop]at hx
   have hlt:=(List.getElem?_eq_some_iff.1 hx).1
   have hn1:(ds.take n1).length=n1:=by simp;omega
   have hj':n1+(i*sz+j)<c.size:=by omega
   rw[hn1]
   exact⟨c[n1+(i*sz+j)],by simp[hj'],(cell _ x _ hx (by simp[hj'])).1⟩
  ·cases hx
theorem Uk (hti:Ao C.P ti) (t:TypeId) (x y z:Operand) (ho:o.op= .mapUpdate t x y z) (hd:o.dst=none) (hk:JH C.M ti t (AP ti s t x) (AP ti s 0 y) (AP ti s 0 z) h k):∃out,k out∧A0 C o fresh s h out:=by
 unfold JH at hk
 obtain⟨q,hq,hk⟩:=AF.1 hk
 split at hk
 rotate_left
 ·exact hk.elim
 rename_i kt et hdd
 obtain⟨kk,qi,zz,hkk,hkd,hop,hk⟩:=JF hk
 split at hk
 rotate_left
 ·exact hk.elim
 rename_i j p hopz
 obtain⟨hp,hk⟩:=AA.1 hk
 obtain rfl:=Nat.eq_of_beq_eq_true hp
 obtain⟨id,n1,sz,n,rows,hk,hid,hrel⟩:=Gx hk
 split at hk
 rotate_left
 ·exact hk.elim
 rename_i cs hcs
 split at hk
 rotate_left
 ·exact hk.elim
 rename_i ds hds
 obtain⟨hl,hlk,rows',rfl,hk⟩:=AA.1 hk
 have hl:=Nat.eq_of_beq_eq_true hl
 have hfind:=(C.M.lock_iff _).1 hlk
 refine⟨_,hk,?_⟩
 rintro F σs σh a w Q ⟨g,R⟩ hs hrd hF hdst
 have hx:=AI ti t x R (s:=s) (fun t ht=>hs t (by subst ht;simp[ho,Op.operands]))
 have hy:=AI ti 0 y R (s:=s) (fun t ht=>hs t (by subst ht;simp[ho,Op.operands]))
 have hz:=AI ti 0 z R (s:=s) (fun t ht=>hs t (by subst ht;simp[ho,Op.operands]))
 rw[hop]at hy
 have hy:AX w (Al (zone g σh) C.X) (.int .i64 zz) (a.eval y):=hy
 have hyv:=YW hy
 rw[hopz]at hz
 have hσ:=(hrd id (by simp)).trans hid
 have hσj:=(hrd j (by simp)).trans hcs
 have hv:=hrel (hrd id (by simp)) hx
 obtain⟨bj,c,ec,gj,hcb,hcz,hcr⟩:=R.heap.objs j _ hσj
 have hzv:a.eval z= .pointer (some ⟨bj,0,none⟩):=by
  have:=hz.2
  rw[gj]at this
  exact this
 obtain⟨ht,r,m,clock,B,g1,g2,g3,g4,g5,_,g6,g7,g8,g9⟩:=R.heap.objs id _ hσ
 rw[g1]at hv
 have hne:j≠id:=by rintro rfl;rw[hσ]at hσj;cases hσj
 have hbj:∀b,BC (g id) b→b≠bj:=by
  rintro b hb rfl
  exact hne (R.heap.sep j id _ _ b hσj hσ (by rw[gj];exact .inl rfl) hb)
 have e1:=B2 hti hq w
 rw[hdd]at e1
 have e2:=B2 hti hkk w
 have e4:∀b,(Instr.checkKey b 10000 kt (a.eval y)).run C.P w= .ok () w:=fun b=>EZ (hti kt kk hkk).1 (by rw[hkd];rfl) hy b 9999
 have e5:=D6 (P:=C.P) g2
 have hnow:Instr.findNow kk.desc (.int .i64 zz) m.toList 0=some none:=by
  rcases Hc (kk:=qi) (z:=zz) (rows:=rows) (ms:=m.toList) 0 (by simpa using g3) (fun k x e hx he=>(g5 k x e hx (by simpa using he)).1)with⟨_,h2⟩ | ⟨q',row,e,h1,_⟩
  ·rw[hkd];exact h2
  ·rw[h1]at hfind;cases hfind
 have hset:=FI (P:=C.P) (.map (m.push ⟨a.eval y,a.eval z,clock⟩) (clock+1)) g2
 have hrun:(execOp a.eval o).run C.P w= .ok .skip {w with heap:=w.heap.setIfInBounds r (.map (m.push ⟨a.eval y,a.eval z,clock⟩) (clock+1))}:=by
  simp[execOp,ho,Instr.mapUpdate,e1,hv,e5,e4,Instr.findKey,e2,hyv▸hnow,hset]
 let B':Nat→Nat:=fun k=>if k<rows.length then B k else bj
 have b1:∀k,k<rows.length→B' k=B k:=fun k hk=>if_pos hk
 have b2:B' rows.length=bj:=if_neg (Nat.lt_irrefl _)
 have hBk:∀k,k<rows.length→BC (g id) (B k):=fun k hk=>(g9 _).2 (.inr ⟨k,hk,by simp,rfl⟩)
 obtain⟨g',R'⟩:=R.bE hσ (T0:=[j]) (by
   simp only[List.mem_singleton,forall_eq]
   exact⟨hne,_,hσj,fun b hb _=>hb,by rw[gj];exact fun h=>h⟩) g1 g2 (m':=m.push ⟨a.eval y,a.eval z,clock⟩) (clock':=clock+1) (rows':=rows++[(zz,ds.take n1,rowsOf true sz n (ds.drop n1))])
  (fun b=>BC (g id) b∨b=bj) (fun b hb=>by
   rcases hb with hb | rfl
   ·exact .inl hb
   ·exact .inr ⟨j,by simp,by rw[gj];exact .inl rfl⟩)
  (fun w' Z' g' h' gv gt gg gb hw1 hw2 ED=>by
   refine⟨gt,r,_,_,B',by rw[gg];exact g1,hw1,by simp[g3],fun en hen=>?_,fun k x en hx he=>?_,by simp,fun k x hx _=>?_,fun i k hi hk he=>?_,fun k hk=>?_,fun b=>?_⟩
   ·rcases Array.mem_push.1 hen with hen | rfl
    ·have:=g4 en hen;omega
    ·exact Nat.lt_succ_self _
   ·by_cases hk:k<rows.length
    ·rw[List.getElem?_append_left hk]at hx
     rw[Array.getElem?_push,if_neg (by omega)]at he
     rw[b1 k hk]
     exact g5 k x en hx he
    ·rw[List.getElem?_append_right (by omega)]at hx
     have hk0:k=rows.length:=by
      have:=(List.getElem?_eq_some_iff.1 hx).1
      simp at this
      omega
     subst hk0
     rw[Nat.sub_self]at hx
     cases hx
     rw[Array.getElem?_push,if_pos g3.symm]at he
     cases he
     exact⟨hyv,by rw[b2];exact hzv⟩
   ·by_cases hk:k<rows.length
    ·rw[List.getElem?_append_left hk]at hx
     rw[b1 k hk]
     exact (g6 k x hx (by simp)).mono (hw2 _ (g8 k hk)) ED
    ·rw[List.getElem?_append_right (by omega)]at hx
     have hk0:k=rows.length:=by
      have:=(List.getElem?_eq_some_iff.1 hx).1
      simp at this
      omega
     subst hk0
     rw[Nat.sub_self]at hx
     cases hx
     rw[b2]
     refine (cF hds hl hcb hcz hcr).mono (hw2 _ fun he=>?_) ED
     exact hbj r ((g9 r).2 (.inl rfl)) he.symm
   ·simp at hi hk
    by_cases h1:i<rows.length
    ·by_cases h2:k<rows.length
     ·rw[b1 i h1,b1 k h2]at he
      exact g7 i k h1 h2 he
     ·have:k=rows.length:=by omega
      subst this
      rw[b1 i h1,b2]at he
      exact absurd he (hbj _ (hBk i h1))
    ·have:i=rows.length:=by omega
     subst this
     by_cases h2:k<rows.length
     ·rw[b1 k h2,b2]at he
      exact absurd he.symm (hbj _ (hBk k h2))
     ·omega
   ·simp at hk
    by_cases h1:k<rows.length
    ·rw[b1 k h1];exact g8 k h1
    ·have:k=rows.length:=by omega
     subst this
     rw[b2]
     exact fun he=>hbj r ((g9 r).2 (.inl rfl)) he.symm
   ·rw[gb,g9]
    constructor
    ·rintro ((h1 | ⟨k,a1,_,a3⟩) | h1)
     ·exact .inl h1
     ·exact .inr ⟨k,by simp;omega,by simp,by rw[b1 k a1];exact a3⟩
     ·exact .inr ⟨rows.length,by simp,by simp,by rw[b2];exact h1⟩
    ·rintro (h1 | ⟨k,a1,_,a3⟩)
     ·exact .inl (.inl h1)
     ·by_cases h2:k<rows.length
      ·exact .inl (.inr ⟨k,h2,by simp,by rw[b1 k h2]at a3;exact a3⟩)
      ·simp at a1
       have:k=rows.length:=by omega
       subst this
       rw[b2]at a3
       exact .inr a3)
 unfold Oper.wp
 rw[hrun]
 exact⟨g',(R'.put (dst:=o.dst) (v:=.u) (u:=undef) (fun d e=>by rw[hd]at e;cases e) trivial).AW (fun n hn=>hn.1)⟩
def eraseP (z:Int) (rows:List Kw):List Kw:=
 match Jx z 0 rows with
 | some kr=>rows.eraseIdx kr.1
 | none=>rows
def JI (M:AY) (ti:Types) (t:TypeId) (x key:AV) (h:AE) (k:Out→Prop):Prop:=
 Ac ti t fun q=>match q.desc with
 | .map kt _=>NZ ti kt key fun z=>K7 x h fun id n1 sz n rows=>∃rows',(M.lock fun _=>eraseP z rows=rows')∧k ⟨.u,[id],[(id,.pmap n1 sz n rows' none)]⟩
 | _=>False
theorem Ul (hti:Ao C.P ti) (t t':TypeId) (x y:Operand) (ho:o.op= .call {callee:=.builtin .delete,args:=#[x,y],argTypes:=#[t,t']}) (hk:JI C.M ti t (AP ti s t x) (AP ti s t' y) h k):∃out,k out∧A0 C o fresh s h out:=by
 unfold JI at hk
 obtain⟨q,hq,hk⟩:=AF.1 hk
 split at hk
 rotate_left
 ·exact hk.elim
 rename_i kt et hdd
 obtain⟨kk,qi,zz,hkk,hkd,hop,hk⟩:=JF hk
 obtain⟨id,n1,sz,n,rows,hk,hid,hrel⟩:=Gx hk
 obtain⟨rows',hlk,hk⟩:=hk
 have her:=(C.M.lock_iff _).1 hlk
 refine⟨_,hk,?_⟩
 rintro F σs σh a w Q ⟨g,R⟩ hs hrd hF hdst
 have hx:=AI ti t x R (s:=s) (fun t ht=>hs t (by subst ht;simp[ho,Op.operands,Call.operands]))
 have hy:=AI ti t' y R (s:=s) (fun t ht=>hs t (by subst ht;simp[ho,Op.operands,Call.operands]))
 rw[hop]at hy
 have hy:AX w (Al (zone g σh) C.X) (.int .i64 zz) (a.eval y):=hy
 have hyv:=YW hy
 have hσ:=(hrd id (by simp)).trans hid
 have hv:=hrel (hrd id (by simp)) hx
 obtain⟨ht,r,m,clock,B,g1,g2,g3,g4,g5,_,g6,g7,g8,g9⟩:=R.heap.objs id _ hσ
 rw[g1]at hv
 have e1:=B2 hti hq w
 rw[hdd]at e1
 have e2:=B2 hti hkk w
 have e4:∀b,(Instr.checkKey b 10000 kt (a.eval y)).run C.P w= .ok () w:=fun b=>EZ (hti kt kk hkk).1 (by rw[hkd];rfl) hy b 9999
 have e5:=D6 (P:=C.P) g2
 have fin:∀(m':Array MapEntry),(execOp a.eval o).run C.P w= .ok (.value (.tuple #[])) {w with heap:=w.heap.setIfInBounds r (.map m' clock)}→
   (∃g',AR C F σs (AJ (Aq σh (Aa [])) id (.pmap n1 sz n rows' none)) g' a {w with heap:=w.heap.setIfInBounds r (.map m' clock)})→
   o.wp C.P a w (fun a' w'=>Rel C (fun n=>F n∧¬(fresh≤n∧n<fresh+32)) (Bp σs o.dst .u) (Aq σh [(id,.pmap n1 sz n rows' none)]) a' w') Q:=by
  rintro m' f1 ⟨g',R'⟩
  unfold Oper.wp
  rw[f1]
  exact⟨g',(R'.put hdst (v:=.u) (u:=.tuple #[]) trivial).AW (fun n hn=>hn.1)⟩
 rcases Hc (kk:=qi) (z:=zz) (rows:=rows) (ms:=m.toList) 0 (by simpa using g3) (fun k x e hx he=>(g5 k x e hx (by simpa using he)).1)with⟨h1,h2⟩ | ⟨q',row,e,h1,h2,h3,h4⟩
 ·have hr:rows'=rows:=by rw[←her,eraseP,h1]
  subst hr
  have hset:=FI (P:=C.P) (.map m clock) g2
  refine fin m (by
   rw[←hkd]at h2
   simp[execOp,ho,resolve,invoke,builtin,Builtin.delete_,e1,hv,e5,e4,Instr.findKey,e2,hyv▸h2,hset]) ?_
  exact R.bE hσ (T0:=[]) (by simp) g1 g2 (fun b=>BC (g id) b) (fun b hb=>.inl hb) (fun w' Z' g' h' gv gt gg gb hw1 hw2 ED=>by
   refine⟨gt,r,_,_,B,by rw[gg];exact g1,hw1,g3,g4,g5,by simp,fun k x hx _=>?_,g7,g8,fun b=>by rw[gb,g9]⟩
   exact (g6 k x hx (by simp)).mono (hw2 _ (g8 k (List.getElem?_eq_some_iff.1 hx).1)) ED)
 ·simp only[Nat.zero_add]at h1 h4
  have hr:rows'=rows.eraseIdx q':=by rw[←her,eraseP,h1]
  subst hr
  have hlt:=(List.getElem?_eq_some_iff.1 h2).1
  have hlen:(rows.eraseIdx q').length=rows.length - 1:=by rw[List.length_eraseIdx,if_pos hlt]
  have hset:=FI (P:=C.P) (.map (m.eraseIdxIfInBounds q') clock) g2
  have hget:∀i,(m.eraseIdxIfInBounds q')[i]?=m[if i<q' then i else i+1]?:=by
   intro i
   rw[←Array.getElem?_toList,Array.toList_eraseIdxIfInBounds,List.getElem?_eraseIdx]
   split<;>simp
  have hgetr:∀i,(rows.eraseIdx q')[i]?=rows[if i<q' then i else i+1]?:=by
   intro i
   rw[List.getElem?_eraseIdx]
   split<;>rfl
  let f:Nat→Nat:=fun i=>if i<q' then i else i+1
  have f1:∀i,i<(rows.eraseIdx q').length→f i<rows.length∧f i≠q':=fun i hi=>by
   show (if i<q' then i else i+1)<rows.length∧(if i<q' then i else i+1)≠q'
   rw[hlen]at hi
   split<;>omega
  have f2:∀i k,f i=f k→i=k:=fun i k h=>by
   have h:(if i<q' then i else i+1)=(if k<q' then k else k+1):=h
   split at h<;>split at h<;>omega
  refine fin (m.eraseIdxIfInBounds q') (by
   rw[←hkd]at h4
   simp[execOp,ho,resolve,invoke,builtin,Builtin.delete_,e1,hv,e5,e4,Instr.findKey,e2,hyv▸h4,hset]) ?_
  exact R.bE hσ (T0:=[]) (by simp) g1 g2 (fun b=>b=r∨∃k,k<(rows.eraseIdx q').length∧b=B (f k)) (fun b hb=>by
    rcases hb with rfl | ⟨k,hk,rfl⟩
    ·exact .inl ((g9 _).2 (.inl rfl))
    ·exact .inl ((g9 _).2 (.inr ⟨f k,(f1 k hk).1,by simp,rfl⟩))) (fun w' Z' g' h' gv gt gg gb hw1 hw2 ED=>by
   refine⟨gt,r,_,_,fun k=>B (f k),by rw[gg];exact g1,hw1,?_,fun en hen=>?_,fun k x en hx he=>?_,by simp,fun k x hx _=>?_,fun i k hi hk he=>f2 i k (g7 _ _ (f1 i hi).1 (f1 k hk).1 he),fun k hk=>g8 _ (f1 k hk).1,fun b=>?_⟩
   ·have:(m.eraseIdxIfInBounds q').toList.length=(rows.eraseIdx q').length:=by
     rw[Array.toList_eraseIdxIfInBounds,List.length_eraseIdx,List.length_eraseIdx]
     simp[g3]
    rw[←Array.length_toList]
    exact this
   ·have hen:=Array.mem_toList_iff.2 hen
    rw[Array.toList_eraseIdxIfInBounds]at hen
    exact g4 en (Array.mem_toList_iff.1 (List.mem_of_mem_eraseIdx hen))
   ·rw[hgetr]at hx
    rw[hget]at he
    exact g5 _ x en hx he
   ·have hk:=(List.getElem?_eq_some_iff.1 hx).1
    rw[hgetr]at hx
    exact (g6 _ x hx (by simp)).mono (hw2 _ (g8 _ (f1 k hk).1)) ED
   ·rw[gb]
    simp)
def L5 (x:AV) (h:AE):Bool:=
 match x with
 | .v (.c (.ptr i _))=>(match h i with
  | some (.arr ..)=>true
  | _=>false)
 | .v (.c (.ap i _ _ _ _))=>(match h i with
  | some (.arr ..)=>true
  | _=>false)
 | _=>false
def Na (ti:Types) (t:TypeId) (x:AV) (h:AE) (k:Out→Prop):Prop:=
 Ac ti t fun i=>match x with
 | .v (.c (.ptr id o))=>(match h id with
  | some (.arr cs1 _ _ _ _)=>Ay (Nat.ble (o+i.size) cs1.length) (k ⟨.v (V1.AZ (AU i.desc) ((cs1.drop o).take i.size)),[id],[]⟩)
  | _=>False)
 | .v (.c (.ap id base sz kk o))=>(match h id with
  | some (.arr cs1 _ sz' rows _)=>Ay (Nat.beq base cs1.length)<| Ay (Nat.beq sz sz')<| ∃r,rows[kk]?=some r∧Ay (Nat.ble (o+i.size) r.cells.length) (k ⟨.v (V1.AZ (AU i.desc) (((r.cells.drop o).take i.size).map CV.d)),[id],[]⟩)
  | _=>False)
 | _=>False
theorem YY (hti:Ao C.P ti) (h1:BB ti) (t:TypeId) (x:Operand) (ho:o.op= .load t x) (hk:Na ti t (AP ti s 0 x) h k):∃out,k out∧A0 C o fresh s h out:=by
 unfold Na at hk
 obtain⟨i,hi,hk⟩:=AF.1 hk
 have fin:∀(cs:List CV) (rd:List Id),cs.length=i.size→
   (∀F σs σh g a w,AR C F σs σh g a w→An w (Al (zone g σh) C.X) g σh (AP ti s 0 x) (a.eval x)→(∀i∈rd,σh i=h i)→
    ∃b q,∃c:Array Value,∃e,a.eval x= .pointer (some ⟨b,q,none⟩)∧w.heap[b]?=some (.cells c e (0,0))∧q+i.size≤c.size∧
     ∀(j:Nat) y u,cs[j]?=some y→c[q+j]?=some u→Au w (Al (zone g σh) C.X) g σh y u)→A0 C o fresh s h ⟨.v (V1.AZ (AU i.desc) cs),rd,[]⟩:=by
  intro cs rd hl H
  refine AG fun F σs σh g a w R hs hrd=>?_
  have hx:=AI ti 0 x R (s:=s) (fun k hk=>hs k (by subst hk;simp[ho,Op.operands]))
  obtain⟨b,q,c,e,he,hb,hle,hr⟩:=H F σs σh g a w R hx hrd
  have hget:∀(j:Nat) u,(c.extract q (q+i.size))[j]?=some u→c[q+j]?=some u∧j<i.size:=by
   intro j u hu
   have hlt:=(Array.getElem?_eq_some_iff.1 hu).1
   simp at hlt
   refine⟨?_,by omega⟩
   rw[←hu,Array.getElem?_extract]
   rw[if_pos (by omega)]
  have hsz:(c.extract q (q+i.size)).size=i.size:=by simp;omega
  obtain⟨v,hv,ha,hb'⟩:=B8 (P:=C.P) (w:=w) (b:=b) (q:=q) hti h1 hi hsz (fun j u hu=>by
   rw[cell_of_row w b (q+j) c e (0,0) hb]
   exact (hget j u hu).1)
  refine⟨v,by simp only[execOp,ho,he];exact Bb hv,?_⟩
  have:=Ag.AZ (ag:=AU i.desc) (cs:=cs) (vs:=c.extract q (q+i.size)) (by omega) (fun j y u hy hu=>hr j y u hy (hget j u hu).1)
  cases hrow:AU i.desc with
  | true=>rw[ha hrow];rw[hrow]at this;exact this.1 rfl
  | false=>rw[hrow]at this;exact this.2 rfl v (hb' hrow)
 split at hk
 ·rename_i id q hop
  split at hk
  ·rename_i cs1 ag sz rows cs2 hcs
   obtain⟨hle,hk⟩:=AA.1 hk
   have hle:=Nat.le_of_ble_eq_true hle
   refine⟨_,hk,fin _ _ (by simp;omega) fun F σs σh g a w R hx hrd=>?_⟩
   rw[hop]at hx
   obtain⟨⟨b,hb⟩,hx⟩:=hx
   rw[hb]at hx
   have hh:σh id=some (.arr cs1 ag sz rows cs2):=(hrd id (by simp)).trans hcs
   obtain⟨_,b',c,e,hg,hheap,hsz,hr,_⟩:=R.heap.objs id _ hh
   rw[hb]at hg
   obtain rfl:b=b':=by simpa using hg
   refine⟨b,q,c,e,hx,hheap,by omega,fun j y u hy hu=>?_⟩
   rw[List.getElem?_take]at hy
   split at hy
   ·rw[List.getElem?_drop]at hy
    exact hr _ y u hy hu
   ·cases hy
  ·exact hk.elim
 ·rename_i id base sz kk o' hop
  split at hk
  ·rename_i cs1 ag sz' rows cs2 hcs
   replace hk:=AA.1 hk
   obtain⟨hb1,hk1⟩:=hk
   replace hk1:=AA.1 hk1
   obtain⟨hb2,r,hrow,hk2⟩:=hk1
   replace hk2:=AA.1 hk2
   obtain⟨hle,hk3⟩:=hk2
   have hle:=Nat.le_of_ble_eq_true hle
   obtain rfl:=Nat.eq_of_beq_eq_true hb1
   obtain rfl:=Nat.eq_of_beq_eq_true hb2
   refine⟨_,hk3,fin _ _ (by simp;omega) fun F σs σh g a w R hx hrd=>?_⟩
   rw[hop]at hx
   obtain⟨⟨b,hb⟩,hx⟩:=hx
   rw[hb]at hx
   have hh:σh id=some (.arr cs1 ag sz rows cs2):=(hrd id (by simp)).trans hcs
   obtain⟨hf,b',c,e,hg,hheap,hsz,_,hr,_⟩:=R.heap.objs id _ hh
   rw[hb]at hg
   obtain rfl:b=b':=by simpa using hg
   have hlt:=(List.getElem?_eq_some_iff.1 hrow).1
   have hfit:=hf r (List.mem_of_getElem? hrow)
   have hm:=Nat.mul_le_mul_right sz (show kk+1≤rows.length from hlt)
   rw[Nat.add_mul]at hm
   have hrl:=hfit.2.1
   refine⟨b,cs1.length+(kk*sz+o'),c,e,hx,hheap,by omega,fun j y u hy hu=>?_⟩
   rw[List.getElem?_map,Option.map_eq_some_iff]at hy
   obtain⟨d,hd,rfl⟩:=hy
   rw[List.getElem?_take]at hd
   split at hd
   ·rw[List.getElem?_drop]at hd
    obtain⟨u',hu',hdd⟩:=hr kk r (o'+j) d hrow hd
    rw[show cs1.length+(kk*sz+o')+j=cs1.length+(kk*sz+(o'+j))by omega,hu']at hu
    cases hu
    exact⟨hdd,hfit.2.2 d (List.mem_of_getElem? hd)⟩
   ·cases hd
  ·exact hk.elim
 ·exact hk.elim
def K8 (M:AY) (ti:Types) (t:TypeId) (x y:AV) (h:AE) (k:Out→Prop):Prop:=
 Ac ti t fun i=>DI y fun y=>Ay (Nat.beq y.cells.length i.size)<| match x with
 | .v (.c (.ptr id o))=>(match h id with
  | some (.arr cs1 ag sz rows cs2)=>Ay (Nat.ble (o+i.size) cs1.length) (k ⟨.u,[id],[(id,.arr (cs1.take o++y.cells++cs1.drop (o+i.size)) ag sz rows cs2)]⟩)
  | _=>False)
 | .v (.c (.ap id base sz kk o))=>(match h id with
  | some (.arr cs1 ag sz' rows cs2)=>Ay (Nat.beq base cs1.length)<| Ay (Nat.beq sz sz')<| Ay (Nat.beq o 0)<| Ay (Nat.beq i.size sz)<| (match I9 y.cells with
   | some ds=>Ay ag<| (M.lock fun _=>kk<rows.length)∧∃rows',rows.set kk (.agg ds)=rows'∧k ⟨.u,[id],[(id,.arr cs1 ag sz rows' cs2)]⟩
   | none=>False)
  | _=>False)
 | _=>False
theorem Wy (hti:Ao C.P ti) (t:TypeId) (x y:Operand) (ho:o.op= .store t x y) (hd:o.dst=none) (hk:K8 C.M ti t (AP ti s 0 x) (AP ti s t y) h k):∃out,k out∧A0 C o fresh s h out:=by
 unfold K8 at hk
 obtain⟨i,hi,hk⟩:=AF.1 hk
 obtain⟨yv,hyv,hk⟩:=CS.1 hk
 obtain⟨hlen,hk⟩:=AA.1 hk
 have hlen:=Nat.eq_of_beq_eq_true hlen
 have core:∀{F:Nat→Prop} {σs:AN} {σh:AE} {g:AL} {a:Act} {w:World} {Q:Exit→Act→World→Prop} (R:AR C F σs σh g a w) (hs:∀t,Operand.tmp t∈o.op.operands.toList→σs t=s t)
   {id:Id} {cs1 cs1' cs2:List CV} {ag:Bool} {sz q b:Nat} {rows rows':List D} (hh:σh id=some (.arr cs1 ag sz rows cs2)) (hb:g id= .pointer (some ⟨b,0,none⟩)) (hx:a.eval x= .pointer (some ⟨b,q,none⟩))
   (hlc:cs1'.length=cs1.length) (hlr:rows'.length=rows.length) (hf:∀r∈rows',r.fits ag sz) (hq:q+i.size≤cs1.length+rows.length*sz)
   (n1:∀(j:Nat) y,cs1'[j]?=some y→(q≤j∧j<q+i.size∧yv.cells[j - q]?=some y)∨(¬(q≤j∧j<q+i.size)∧cs1[j]?=some y))
   (n2:∀(p:Nat) r (j:Nat) d,rows'[p]?=some r→r.cells[j]?=some d→(q≤cs1.length+(p*sz+j)∧cs1.length+(p*sz+j)<q+i.size∧∃y,yv.cells[cs1.length+(p*sz+j) - q]?=some y∧
     ∀{w:World} {Z:Ad} {g:AL} {h:AE} {u:Value},Au w Z g h y u→AX w Z d u)∨(¬(q≤cs1.length+(p*sz+j)∧cs1.length+(p*sz+j)<q+i.size)∧∃r0,rows[p]?=some r0∧r0.cells[j]?=some d)) (F':Nat→Prop) (hF':∀n,F' n→F n),
   o.wp C.P a w (fun a' w'=>Rel C F' (Bp σs o.dst .u) (AJ σh id (.arr cs1' ag sz rows' cs2)) a' w') Q:=by
  intro F σs σh g a w Q R hs id cs1 cs1' cs2 ag sz q b rows rows' hh hb hx hlc hlr hf hq n1 n2 F' hF'
  have hy:=AI ti t y R (s:=s) (fun k hk=>hs k (by subst hk;simp[ho,Op.operands]))
  rw[hyv]at hy
  obtain⟨hy1,hy2⟩:=Ag.cells (show Ag w _ g σh yv (a.eval y)from hy)
  have hone:∀v∈(a.eval y).cells.toList,v.oneCell'=true:=by
   intro v hv
   obtain⟨j,hj⟩:=List.mem_iff_getElem?.1 hv
   have hlt:=(List.getElem?_eq_some_iff.1 hj).1
   simp at hlt hj
   exact Au.BW (hy2 j yv.cells[j] v (by simp) (by simpa using hj))
  obtain⟨_,b',c,e,hg,hheap,hsz,h1,h2,h3⟩:=R.heap.objs id _ hh
  rw[hb]at hg
  obtain rfl:b=b':=by simpa using hg
  have hyl:(a.eval y).cells.toList.length=i.size:=by simp;omega
  have hrun:=JB hti hi ho hx hheap (by omega) (by omega) hone
  have hsp:∀j,(c.toList.take q++(a.eval y).cells.toList++c.toList.drop (q+(a.eval y).cells.toList.length))[j]?=if q≤j∧j<q+i.size then (a.eval y).cells.toList[j - q]? else c.toList[j]?:=fun j=>by
   have:=CF c.toList (a.eval y).cells.toList q (by rw[hyl];simp;omega) j
   rw[this,hyl]
  have hcl:(c.toList.take q++(a.eval y).cells.toList++c.toList.drop (q+(a.eval y).cells.toList.length)).length=c.size:=by
   rw[hyl]
   simp
   omega
  have R':=R.Vj (ob':=.arr cs1' ag sz rows' cs2) hh (b:=b) (c':=(c.toList.take q++(a.eval y).cells.toList++c.toList.drop (q+(a.eval y).cells.toList.length)).toArray) (fun _=>show BC (g id) b by rw[hb];exact .inl rfl) (fun _ _ h=>h) (fun h=>by cases h) (by simp) hheap (fun E=>by
   refine⟨hf,b,_,e,hb,setRow_heap w b c _ e _ hheap,by rw[List.size_toArray,hcl,hsz,hlc,hlr],fun j y' u hy' hu=>?_,fun p r j d hr hdd=>?_,fun j y' u hy' hu=>?_⟩
   ·rw[List.getElem?_toArray,hsp]at hu
    rcases n1 j y' hy' with⟨a1,a2,a3⟩ | ⟨a1,a2⟩
    ·rw[if_pos ⟨a1,a2⟩]at hu
     exact E.IJ (hy2 _ y' u a3 (by simpa using hu))
    ·rw[if_neg a1]at hu
     exact E.IJ (h1 j y' u a2 (by simpa using hu))
   ·rw[hlc]
    simp only[List.getElem?_toArray,hsp]
    rcases n2 p r j d hr hdd with⟨a1,a2,y',a3,a4⟩ | ⟨a1,r0,a2,a3⟩
    ·rw[if_pos ⟨a1,a2⟩]
     have hlt:=(List.getElem?_eq_some_iff.1 a3).1
     have hlt':cs1.length+(p*sz+j) - q<(a.eval y).cells.size:=by omega
     exact⟨(a.eval y).cells[cs1.length+(p*sz+j) - q],by simp[hlt'],E.Er (a4 (hy2 _ y' _ a3 (by simp[hlt'])))⟩
    ·rw[if_neg a1]
     obtain⟨u,hu,hd⟩:=h2 p r0 j d a2 a3
     exact⟨u,by simpa using hu,E.Er hd⟩
   ·rw[List.getElem?_toArray,hsp,if_neg (by rw[hlc,hlr];omega)]at hu
    rw[hlc,hlr]at hu
    exact E.IJ (h3 j y' u hy' (by simpa using hu)))
  unfold Oper.wp
  rw[hrun]
  exact⟨g,(R'.put (dst:=o.dst) (v:=.u) (u:=undef) (fun d e=>by rw[hd]at e;cases e) trivial).AW hF'⟩
 split at hk
 ·rename_i id q hop
  split at hk
  ·rename_i cs1 ag sz rows cs2 hcs
   obtain⟨hle,hk⟩:=AA.1 hk
   have hle:=Nat.le_of_ble_eq_true hle
   refine⟨_,hk,?_⟩
   rintro F σs σh a w Q ⟨g,R⟩ hs hrd hF _
   have hx:=AI ti 0 x R (s:=s) (fun k hk=>hs k (by subst hk;simp[ho,Op.operands]))
   rw[hop]at hx
   obtain⟨⟨b,hb⟩,hx⟩:=hx
   rw[hb]at hx
   have hh:σh id=some (.arr cs1 ag sz rows cs2):=(hrd id (by simp)).trans hcs
   obtain⟨hf,_⟩:=R.heap.objs id _ hh
   refine core R hs hh hb hx (by simp;omega) rfl hf (by omega) (fun j y' hy'=>?_) (fun p r j d hr hdd=>.inr ⟨by omega,r,hr,hdd⟩) _ (fun n hn=>hn.1)
   rw[←hlen,CF _ _ _ (by omega),hlen]at hy'
   split at hy'
   ·rename_i hc
    exact .inl ⟨hc.1,hc.2,hy'⟩
   ·rename_i hc
    exact .inr ⟨hc,hy'⟩
  ·exact hk.elim
 ·rename_i id base sz kk o' hop
  split at hk
  ·rename_i cs1 ag sz' rows cs2 hcs
   replace hk:=AA.1 hk
   obtain⟨hb1,hk1⟩:=hk
   replace hk1:=AA.1 hk1
   obtain⟨hb2,hk2⟩:=hk1
   replace hk2:=AA.1 hk2
   obtain⟨hb3,hk3⟩:=hk2
   replace hk3:=AA.1 hk3
   obtain⟨hb4,hk4⟩:=hk3
   split at hk4
   ·rename_i ds hds
    replace hk4:=AA.1 hk4
    obtain⟨hag,hkk0,rows',hset,hk5⟩:=hk4
    have hkk:=(C.M.lock_iff _).1 hkk0
    subst hag
    obtain rfl:=Nat.eq_of_beq_eq_true hb1
    obtain rfl:=Nat.eq_of_beq_eq_true hb2
    obtain rfl:=Nat.eq_of_beq_eq_true hb3
    have hsz:=Nat.eq_of_beq_eq_true hb4
    refine⟨_,hk5,?_⟩
    rintro F σs σh a w Q ⟨g,R⟩ hs hrd hF _
    have hx:=AI ti 0 x R (s:=s) (fun k hk=>hs k (by subst hk;simp[ho,Op.operands]))
    have hy:=AI ti t y R (s:=s) (fun k hk=>hs k (by subst hk;simp[ho,Op.operands]))
    rw[hyv]at hy
    obtain⟨hy1,hy2⟩:=Ag.cells (show Ag w _ g σh yv (a.eval y)from hy)
    rw[hop]at hx
    obtain⟨⟨b,hb⟩,hx⟩:=hx
    rw[hb]at hx
    have hh:σh id=some (.arr cs1 true sz rows cs2):=(hrd id (by simp)).trans hcs
    obtain⟨hf,_⟩:=R.heap.objs id _ hh
    have hdl:ds.length=sz:=by
     have:=(GL (w:=w) (Z:=Al (zone g σh) C.X) (g:=g) (h:=σh) hds).1
     omega
    have hda:∀d∈ds,d.isAgg=false:=by
     intro d hd'
     obtain⟨j,hj⟩:=List.mem_iff_getElem?.1 hd'
     have hlt:=(List.getElem?_eq_some_iff.1 hj).1
     obtain⟨y',hy'⟩:∃y',yv.cells[j]?=some y':=⟨_,List.getElem?_eq_getElem (by omega)⟩
     have hlt':j<(a.eval y).cells.size:=by omega
     exact ((GL (w:=w) (Z:=Al (zone g σh) C.X) (g:=g) (h:=σh) hds).2 j d y' _ hj hy' (hy2 j y' _ hy' (Array.getElem?_eq_getElem hlt'))).2
    have hm:kk*sz+sz≤rows.length*sz:=by
     have:=Nat.mul_le_mul_right sz (show kk+1≤rows.length from hkk)
     rwa [Nat.add_mul,Nat.one_mul]at this
    have hfr:∀r∈rows',r.fits true sz:=by
     rw[←hset]
     intro r hr
     rcases List.mem_or_eq_of_mem_set hr with hr | rfl
     ·exact hf r hr
     ·exact⟨rfl,hdl,hda⟩
    refine core R hs hh hb (q:=cs1.length+(kk*sz+0)) hx rfl (by rw[←hset];simp) hfr (by omega) (fun j y' hy'=>.inr ⟨?_,hy'⟩) (fun p r j d hr hdd=>?_) _ (fun n hn=>hn.1)
    ·have:=(List.getElem?_eq_some_iff.1 hy').1
     omega
    ·have hj:j<sz:=by
      have h1:=(hfr r (List.mem_of_getElem? hr)).2.1
      have h2:=(List.getElem?_eq_some_iff.1 hdd).1
      omega
     rw[←hset]at hr
     by_cases hp:p=kk
     ·subst hp
      rw[List.getElem?_set_self hkk]at hr
      cases hr
      have hdd:ds[j]?=some d:=hdd
      refine .inl ⟨by omega,by omega,?_⟩
      obtain⟨y',hy'⟩:∃y',yv.cells[j]?=some y':=⟨_,List.getElem?_eq_getElem (by omega)⟩
      refine⟨y',by rw[show cs1.length+(p*sz+j) - (cs1.length+(p*sz+0))=j by omega];exact hy',fun {w Z g h u} hr=>((GL (w:=w) (Z:=Z) (g:=g) (h:=h) hds).2 j d y' u hdd hy' hr).1⟩
     ·rw[List.getElem?_set_ne (by omega)]at hr
      refine .inr ⟨fun hc=>?_,r,hr,hdd⟩
      rcases Nat.lt_or_gt_of_ne hp with h5 | h5
      ·have:=Nat.mul_le_mul_right sz (show p+1≤kk from h5)
       rw[Nat.add_mul]at this
       omega
      ·have:=Nat.mul_le_mul_right sz (show kk+1≤p from h5)
       rw[Nat.add_mul]at this
       omega
   ·exact hk4.elim
  ·exact hk.elim
 ·exact hk.elim
end
end Go.AM
namespace Go.AM
open Go Go.RowKit
section
variable {C:Cx}{F:Nat→Prop}{s:AN}{h:AE}{g:AL}{a:Act}{w:World}
theorem AR.UR {h':AE}{g':AL}{F':Nat→Prop}(R:AR C F s h g a w) (T:Id→Prop)
  (hsame:∀i,¬T i→h' i=h i∧g' i=g i)
  (hT:∀i,T i→g' i=g i∨(isTu (g i)∧isTu (g' i)∧gval (g' i)=gval (g i))∨g i=undef)
  (hlv:∀i,T i→isTu (g i)→isLive (h' i)=true→isLive (h i)=true)
  (hnew:∀i ob,T i→h' i=some ob→∀n sz e,ob≠ .tok n sz e)
  (hobj:∀i o,T i→h' i=some o→BH w (Al (zone g' h') C.X) g' h' o (g' i))
  (hblk:∀i ob b,T i→h' i=some ob→EM (g' i) ob b→∃j o0,T j∧h j=some o0∧(∀o,BL (g j) o0 b o))
  (hsep:∀i j oi oj b,T i→T j→h' i=some oi→h' j=some oj→EM (g' i) oi b→EM (g' j) oj b→i=j)
  (hext:∀j,T (.ext j)→CQ (g (.ext j)) (g' (.ext j)))
  (hfree:∀n,F' n→g' (.loc n)=undef∧h' (.loc n)=none):AR C F' s h' g' a w:=by
 have hz:∀b o,Al (zone g' h') C.X b o→Al (zone g h) C.X b o:=by
  rintro b o (⟨i,ob,hi,h1⟩ | hx)
  ·by_cases ti:T i
   ·obtain⟨j,o0,_,hj,hb⟩:=hblk i ob b ti hi h1.F7
    exact .inl ⟨j,_,hj,hb o⟩
   ·rw[(hsame i ti).1]at hi
    rw[(hsame i ti).2]at h1
    exact .inl ⟨i,ob,hi,h1⟩
  ·exact .inr hx
 have Fj:∀i,¬isTu (g i)→g i≠undef→g' i=g i:=fun i h1 h2=>by
  by_cases ti:T i
  ·rcases hT i ti with h | h | h
   ·exact h
   ·exact absurd h.1 h1
   ·exact absurd h h2
  ·exact (hsame i ti).2
 have E:Gp w (Al (zone g h) C.X) g h w (Al (zone g' h') C.X) g' h':=by
  refine⟨fun b o u hu hn=>⟨hu,fun hy=>hn (hz b o hy)⟩,fun i b hb=>?_,fun i q hq=>?_,fun i hi=>?_,fun i n sz e hi hk=>?_,fun i hi=>?_,fun i hi hl=>?_⟩
  ·exact Fj i (fun h=>by rw[hb]at h;obtain⟨_,_,h,_⟩:=h;cases h) (by rw[hb];simp[undef])
  ·exact Fj i (fun h=>by rw[hq]at h;obtain⟨_,_,h,_⟩:=h;cases h) (by rw[hq];simp[undef])
  ·rw[Fj i (Cb hi) (fun h=>by rw[h]at hi;exact hi)];exact hi
  ·have e1:=Fj i (Cb hi) (fun h=>by rw[h]at hi;exact hi)
   by_cases ti:T i
   ·exact absurd rfl (hnew i _ ti hk n sz e)
   ·rw[(hsame i ti).1]at hk
    exact⟨n,Nat.le_refl _,hk,fun _=>e1⟩
  ·by_cases ti:T i
   ·rcases hT i ti with h | h | h
    ·rw[h];exact hi
    ·exact h.2.1
    ·rw[h]at hi;exact (Aw hi).elim
   ·rw[(hsame i ti).2];exact hi
  ·by_cases ti:T i
   ·refine⟨hlv i ti hi hl,?_⟩
    rcases hT i ti with h | h | h
    ·rw[h]
    ·exact h.2.2
    ·rw[h]at hi;exact (Aw hi).elim
   ·rw[(hsame i ti).1]at hl
    exact⟨hl,by rw[(hsame i ti).2]⟩
 refine R.step T E ⟨rfl,rfl,rfl,Nat.le_refl _,fun _ _ _=>rfl,fun _ _ _ hu _=>hu⟩ hsame (fun _ _ _ _ _ _=>rfl) (fun i o ti ho=>hobj i o ti ho) (fun i ob b o ti hi h1=>?_) hsep hext hfree
 obtain⟨j,o0,tj,hj,hb⟩:=hblk i ob b ti hi h1.F7
 exact .inl ⟨j,_,tj,hj,hb o⟩
theorem AR.jZ (R:AR C F s h g a w) {j:Id}{ag:Bool}{sz k:Nat}{rows:List D}{cs:List CV}(hj:h j=some (.tree .row ag sz rows (some (k,cs)))) {n:Nat}(hf:F n):
  ∃q cap,gval (g j)= .slice (some ⟨q,0,none⟩) rows.length cap∧k<rows.length∧rows.length≤cap∧cap≤maxLen∧
  ∃g',AR C (fun m=>F m∧m≠n) s (AJ (AJ h j (.part (k+1) ag sz (rows.drop (k+1)))) (.loc n) (.part 0 ag sz (rows.take k))) g' a w∧
   Au w (Al (zone g' (AJ (AJ h j (.part (k+1) ag sz (rows.drop (k+1)))) (.loc n) (.part 0 ag sz (rows.take k)))) C.X) g' (AJ (AJ h j (.part (k+1) ag sz (rows.drop (k+1)))) (.loc n) (.part 0 ag sz (rows.take k))) (.ow (.loc n)) (.slice (some ⟨q,0,none⟩) k cap):=by
 classical
 obtain⟨ht,h0,hfit,xs,hx,hc,U,T,h1,h2,h3,h4,h5⟩:=R.heap.objs j _ hj
 obtain⟨hk,_,_⟩:=hc k cs rfl
 obtain⟨A,cap,hv,hc1,hc2,hA⟩:=Holds.row hx
 obtain⟨q,rfl⟩:=hA (by omega)
 obtain⟨hgn,hhn⟩:=R.free n hf
 have hjn:j≠ .loc n:=by rintro rfl;rw[hhn]at hj;cases hj
 obtain⟨l1,hl1⟩:=BC.fin (g j)
 have sub:∀i jj b,T i jj b→BC (g j) b:=fun i jj b hb=>(h5 b).2 (.inr ⟨i,jj,hb⟩)
 obtain⟨gA,tA,vA,bA⟩:=MM (.slice (some ⟨q,0,none⟩) k cap) l1 (fun b=>∃i jj,i<k∧T i jj b) (fun b ⟨i,jj,_,hb⟩=>hl1 b (sub i jj b hb))
 obtain⟨gB,tB,vB,bB⟩:=MM (gval (g j)) l1 (fun b=>∃i jj,k<i∧T i jj b) (fun b ⟨i,jj,_,hb⟩=>hl1 b (sub i jj b hb))
 let h':AE:=AJ (AJ h j (.part (k+1) ag sz (rows.drop (k+1)))) (.loc n) (.part 0 ag sz (rows.take k))
 let g':AL:=fun x=>if x= .loc n then gA else if x=j then gB else g x
 have hh:∀i,h' i=if i= .loc n then some (.part 0 ag sz (rows.take k))else if i=j then some (.part (k+1) ag sz (rows.drop (k+1)))else h i:=fun i=>rfl
 have gn:g' (.loc n)=gA:=if_pos rfl
 have gj:g' j=gB:=by show (if j= .loc n then gA else if j=j then gB else g j)=gB;rw[if_neg hjn,if_pos rfl]
 have hq:blk (gval (g j))=some q:=by rw[hv];rfl
 have oq:EM (g j) (.tree .row ag sz rows (some (k,cs))) q:=(h5 q).2 (.inl hq)
 have qz:∀o,¬Al (zone g' h') C.X q o:=by
  rintro o (⟨i,ob,hi,hz⟩ | hX)
  ·rw[hh]at hi
   by_cases e1:i= .loc n
   ·subst e1
    rw[if_pos rfl]at hi
    cases hi
    have hz:BC (g' (.loc n)) q:=hz
    rw[gn]at hz
    obtain⟨i,jj,_,hb⟩:=(bA q).1 hz
    exact h3 i jj q hb hq
   ·rw[if_neg e1]at hi
    by_cases e2:i=j
    ·subst e2
     rw[if_pos rfl]at hi
     cases hi
     have hz:BC (g' i) q:=hz
     rw[gj]at hz
     obtain⟨i',jj,_,hb⟩:=(bB q).1 hz
     exact h3 i' jj q hb hq
    ·rw[if_neg e2]at hi
     have hz:BL (g' i) ob q o:=hz
     rw[show g' i=g i by show (if i= .loc n then gA else if i=j then gB else g i)=g i;rw[if_neg e1,if_neg e2]]at hz
     exact e2 (R.heap.sep i j ob _ q hi hj hz.F7 oq)
  ·exact R.heap.apart j _ q o hj oq hX
 have cell:∀i r jj d,i≠k→rows[i]?=some r→r.cells[jj]?=some d→w.cell? ⟨q,i*sz+jj,none⟩=some (U i jj)∧CD w d (U i jj) (T i jj):=by
  intro i r jj d hi hr hd
  obtain⟨g1,g2⟩:=h1 i r jj d (fun k' cs' e=>by cases e;exact hi) hr hd
  exact⟨hx.cell rfl hq g1,(Cs.own rfl).1 g2⟩
 refine⟨q,cap,hv,hk,hc1,hc2,g',?_,rfl,by rw[gn];exact tA,fun _=>by rw[gn];exact vA.symm⟩
 refine R.UR (fun i=>i=j∨i= .loc n) (fun i hi=>?_) (fun i hi=>?_) (fun i hi ht' hl=>?_) (fun i ob hi ho=>?_) (fun i ob hi ho=>?_) (fun i ob b hi ho hb=>?_) (fun i i' oi oj b hi hi' ho ho' hb hb'=>?_) (fun x hx=>?_) (fun m hm=>?_)
 ·obtain⟨e2,e1⟩:=not_or.1 hi
  exact⟨by show h' i=h i;rw[hh,if_neg e1,if_neg e2],by show (if i= .loc n then gA else if i=j then gB else g i)=g i;rw[if_neg e1,if_neg e2]⟩
 ·rcases hi with rfl | rfl
  ·exact .inr (.inl ⟨ht,by rw[gj];exact tB,by rw[gj];exact vB⟩)
  ·exact .inr (.inr hgn)
 ·rcases hi with rfl | rfl
  ·rw[hj];rfl
  ·rw[hgn]at ht';exact (Aw ht').elim
 ·have ho:h' i=some ob:=ho
  rw[hh]at ho
  rcases hi with rfl | rfl
  ·rw[if_neg hjn,if_pos rfl]at ho;cases ho;intro _ _ _ e;cases e
  ·rw[if_pos rfl]at ho;cases ho;intro _ _ _ e;cases e
 ·have ho:h' i=some ob:=ho
  rw[hh]at ho
  rcases hi with rfl | rfl
  ·rw[if_neg hjn,if_pos rfl]at ho
   cases ho
   show isTu (g' i)∧Eu w _ (k+1) ag sz (rows.drop (k+1)) (gval (g' i)) (BC (g' i))
   rw[gj]
   have hl:k+1+(rows.drop (k+1)).length=rows.length:=by simp;omega
   refine⟨tB,h0,fun r hr=>hfit r (List.mem_of_mem_drop hr),some ⟨q,0,none⟩,cap,q,0,by rw[hl,vB];exact hv,by rw[hl];exact hc1,hc2,fun _=>rfl,fun x jj=>U (k+1+x) jj,fun x jj b=>T (k+1+x) jj b,fun x r jj d hr hd=>?_,fun x jj b hb=>?_,fun x jj x' jj' b hb hb'=>?_,fun b=>?_⟩
   ·rw[List.getElem?_drop]at hr
    obtain⟨g1,g2⟩:=cell (k+1+x) r jj d (by omega) hr hd
    rw[Nat.zero_add]
    exact⟨g1,qz _,g2⟩
   ·obtain⟨_,r,d,hr,hd⟩:=h2 _ _ _ hb
    exact⟨r,d,by rw[List.getElem?_drop];exact hr,hd⟩
   ·have:=h4 _ _ _ _ b hb hb'
    omega
   ·rw[bB]
    constructor
    ·rintro⟨x,jj,hx,hb⟩
     exact⟨x - (k+1),jj,by show T (k+1+(x - (k+1))) jj b;rw[show k+1+(x - (k+1))=x by omega];exact hb⟩
    ·rintro⟨x,jj,hb⟩
     exact⟨_,jj,by omega,hb⟩
  ·rw[if_pos rfl]at ho
   cases ho
   show isTu (g' (.loc n))∧Eu w _ 0 ag sz (rows.take k) (gval (g' (.loc n))) (BC (g' (.loc n)))
   rw[gn]
   have hl:0+(rows.take k).length=k:=by simp;omega
   have hget:∀x r,(rows.take k)[x]?=some r→x<k∧rows[x]?=some r:=by
    intro x r hr
    rw[List.getElem?_take]at hr
    split at hr
    ·rename_i hlt;exact⟨hlt,hr⟩
    ·cases hr
   refine⟨tA,h0,fun r hr=>hfit r (List.mem_of_mem_take hr),some ⟨q,0,none⟩,cap,q,0,by rw[hl];exact vA,by omega,hc2,fun _=>rfl,U,fun x jj b=>x<k∧T x jj b,fun x r jj d hr hd=>?_,fun x jj b hb=>?_,fun x jj x' jj' b hb hb'=>h4 _ _ _ _ b hb.2 hb'.2,fun b=>?_⟩
   ·obtain⟨hlt,hr⟩:=hget x r hr
    obtain⟨g1,g2⟩:=cell x r jj d (by omega) hr hd
    rw[Nat.zero_add,Nat.zero_add]
    exact⟨g1,qz _,g2.congr fun b=>⟨fun hb=>⟨hlt,hb⟩,fun hb=>hb.2⟩⟩
   ·obtain⟨_,r,d,hr,hd⟩:=h2 _ _ _ hb.2
    exact⟨r,d,by rw[List.getElem?_take,if_pos hb.1];exact hr,hd⟩
   ·rw[bA]
 ·have ho:h' i=some ob:=ho
  rw[hh]at ho
  refine⟨j,_,.inl rfl,hj,fun o=>?_⟩
  show BC (g j) b
  rcases hi with rfl | rfl
  ·rw[if_neg hjn,if_pos rfl]at ho
   cases ho
   have hb:BC (g' i) b:=hb
   rw[gj]at hb
   obtain⟨x,jj,_,hb⟩:=(bB b).1 hb
   exact sub _ _ _ hb
  ·rw[if_pos rfl]at ho
   cases ho
   have hb:BC (g' (.loc n)) b:=hb
   rw[gn]at hb
   obtain⟨x,jj,_,hb⟩:=(bA b).1 hb
   exact sub _ _ _ hb
 ·have blkA:∀{ob},h' (.loc n)=some ob→EM (g' (.loc n)) ob b→∃x jj,x<k∧T x jj b:=by
   intro ob ho hb
   rw[hh,if_pos rfl]at ho
   cases ho
   have hb:BC (g' (.loc n)) b:=hb
   rw[gn]at hb
   exact (bA b).1 hb
  have blkB:∀{ob},h' j=some ob→EM (g' j) ob b→∃x jj,k<x∧T x jj b:=by
   intro ob ho hb
   rw[hh,if_neg hjn,if_pos rfl]at ho
   cases ho
   have hb:BC (g' j) b:=hb
   rw[gj]at hb
   exact (bB b).1 hb
  rcases hi with rfl | rfl<;>rcases hi' with rfl | rfl
  ·rfl
  ·obtain⟨x,jj,x1,x2⟩:=blkB ho hb
   obtain⟨y,jj',y1,y2⟩:=blkA ho' hb'
   have:=(h4 _ _ _ _ b x2 y2).1
   omega
  ·obtain⟨x,jj,x1,x2⟩:=blkA ho hb
   obtain⟨y,jj',y1,y2⟩:=blkB ho' hb'
   have:=(h4 _ _ _ _ b x2 y2).1
   omega
  ·rfl
 ·rcases hx with hx | hx
  ·subst hx;exact .inr ⟨ht,by rw[gj];exact tB,by rw[gj];exact vB⟩
  ·cases hx
 ·have hm1:Id.loc m≠ .loc n:=fun e=>hm.2 (by cases e;rfl)
  obtain⟨k1,k2⟩:=R.free m hm.1
  have hm2:Id.loc m≠j:=fun e=>by rw[e,hj]at k2;cases k2
  exact⟨by show (if Id.loc m= .loc n then gA else if Id.loc m=j then gB else g (.loc m))=undef;rw[if_neg hm1,if_neg hm2];exact k1,by show h' (.loc m)=none;rw[hh,if_neg hm1,if_neg hm2];exact k2⟩
theorem AR.kA (R:AR C F s h g a w) {j:Id}{ag:Bool}{sz c:Nat}{rows:List D}(hj:h j=some (.part c ag sz rows)) {n:Nat}(hf:F n):
  ∃A cap,gval (g j)= .slice A (c+rows.length) cap∧c+rows.length≤cap∧cap≤maxLen∧∀A',(0<rows.length→A'=A.map (·.add (c*sz)))→
  ∃g',AR C (fun m=>F m∧m≠n) s (AJ (AJ h j .gone) (.loc n) (.part 0 ag sz rows)) g' a w∧
   Au w (Al (zone g' (AJ (AJ h j .gone) (.loc n) (.part 0 ag sz rows))) C.X) g' (AJ (AJ h j .gone) (.loc n) (.part 0 ag sz rows)) (.ow (.loc n)) (.slice A' rows.length (cap - c)):=by
 classical
 obtain⟨ht,h0,hfit,A,cap,b0,o0,hv,hc1,hc2,hA,U,T,h1,h2,h4,h5⟩:=R.heap.objs j _ hj
 refine⟨A,cap,hv,hc1,hc2,fun A' hA'=>?_⟩
 obtain⟨hgn,hhn⟩:=R.free n hf
 have hjn:j≠ .loc n:=by rintro rfl;rw[hhn]at hj;cases hj
 obtain⟨l1,hl1⟩:=BC.fin (g j)
 obtain⟨gA,tA,vA,bA⟩:=MM (.slice A' rows.length (cap - c)) l1 (fun b=>BC (g j) b) (fun b hb=>hl1 b hb)
 let h':AE:=AJ (AJ h j .gone) (.loc n) (.part 0 ag sz rows)
 let g':AL:=fun x=>if x= .loc n then gA else g x
 have hh:∀i,h' i=if i= .loc n then some (.part 0 ag sz rows)else if i=j then some .gone else h i:=fun i=>rfl
 have gn:g' (.loc n)=gA:=if_pos rfl
 have go:∀i,i≠ .loc n→g' i=g i:=fun i hi=>if_neg hi
 have hz:∀b o,Al (zone g' h') C.X b o→Al (zone g h) C.X b o:=by
  rintro b o (⟨i,ob,hi,hz⟩ | hX)
  ·rw[hh]at hi
   by_cases e1:i= .loc n
   ·subst e1
    rw[if_pos rfl]at hi
    cases hi
    have hz:BC (g' (.loc n)) b:=hz
    rw[gn]at hz
    exact .inl ⟨j,_,hj,(bA b).1 hz⟩
   ·rw[if_neg e1]at hi
    rw[go i e1]at hz
    by_cases e2:i=j
    ·rw[if_pos e2]at hi;cases hi;exact hz.elim
    ·rw[if_neg e2]at hi
     exact .inl ⟨i,ob,hi,hz⟩
  ·exact .inr hX
 refine⟨g',?_,rfl,by rw[gn];exact tA,fun _=>by rw[gn];exact vA.symm⟩
 refine R.UR (fun i=>i=j∨i= .loc n) (fun i hi=>?_) (fun i hi=>?_) (fun i hi ht' hl=>?_) (fun i ob hi ho=>?_) (fun i ob hi ho=>?_) (fun i ob b hi ho hb=>?_) (fun i i' oi oj b hi hi' ho ho' hb hb'=>?_) (fun x hx=>?_) (fun m hm=>?_)
 ·obtain⟨e2,e1⟩:=not_or.1 hi
  exact⟨by show h' i=h i;rw[hh,if_neg e1,if_neg e2],go i e1⟩
 ·rcases hi with rfl | rfl
  ·exact .inl (go _ hjn)
  ·exact .inr (.inr hgn)
 ·rcases hi with rfl | rfl
  ·rw[hj];rfl
  ·rw[hgn]at ht';exact (Aw ht').elim
 ·have ho:h' i=some ob:=ho
  rw[hh]at ho
  rcases hi with rfl | rfl
  ·rw[if_neg hjn,if_pos rfl]at ho;cases ho;intro _ _ _ e;cases e
  ·rw[if_pos rfl]at ho;cases ho;intro _ _ _ e;cases e
 ·have ho:h' i=some ob:=ho
  rw[hh]at ho
  rcases hi with rfl | rfl
  ·rw[if_neg hjn,if_pos rfl]at ho
   cases ho
   trivial
  ·rw[if_pos rfl]at ho
   cases ho
   show isTu (g' (.loc n))∧Eu w _ 0 ag sz rows (gval (g' (.loc n))) (BC (g' (.loc n)))
   rw[gn]
   refine⟨tA,h0,hfit,A',cap - c,b0,o0+c*sz,by rw[Nat.zero_add];exact vA,by omega,by omega,fun hp=>?_,U,T,fun x r jj d hr hd=>?_,h2,h4,fun b=>by rw[bA];exact h5 b⟩
   ·rw[hA' (by omega),hA (by omega)]
    simp[BN]
   ·obtain⟨g1,g2,g3⟩:=h1 x r jj d hr hd
    rw[show o0+c*sz+((0+x)*sz+jj)=o0+((c+x)*sz+jj)by rw[Nat.zero_add,Nat.add_mul];omega]
    exact⟨g1,fun hy=>g2 (hz _ _ hy),g3⟩
 ·have ho:h' i=some ob:=ho
  rw[hh]at ho
  refine⟨j,_,.inl rfl,hj,fun o=>?_⟩
  show BC (g j) b
  rcases hi with rfl | rfl
  ·rw[if_neg hjn,if_pos rfl]at ho
   cases ho
   exact hb.elim
  ·rw[if_pos rfl]at ho
   cases ho
   have hb:BC (g' (.loc n)) b:=hb
   rw[gn]at hb
   exact (bA b).1 hb
 ·have noj:∀{ob},h' j=some ob→EM (g' j) ob b→False:=by
   intro ob ho hb
   rw[hh,if_neg hjn,if_pos rfl]at ho
   cases ho
   exact hb
  rcases hi with rfl | rfl<;>rcases hi' with rfl | rfl
  ·rfl
  ·exact (noj ho hb).elim
  ·exact (noj ho' hb').elim
  ·rfl
 ·rcases hx with hx | hx
  ·subst hx;exact .inl (go _ (by intro e;cases e))
  ·cases hx
 ·have hm1:Id.loc m≠ .loc n:=fun e=>hm.2 (by cases e;rfl)
  obtain⟨k1,k2⟩:=R.free m hm.1
  have hm2:Id.loc m≠j:=fun e=>by rw[e,hj]at k2;cases k2
  exact⟨(go _ hm1).trans k1,by show h' (.loc m)=none;rw[hh,if_neg hm1,if_neg hm2];exact k2⟩
end
def K9 (ti:Types) (s:AN) (t:TypeId) (x:AV) (lo hi mx:Option Operand) (fresh:Nat) (h:AE) (k:Out→Prop):Prop:=
 Ac ti t fun q=>match q.desc with
 | .slice e=>Ac ti e fun jj=>match x with
  | .v (.c (.ow j))=>(match mx with
   | none=>(match h j with
    | some (.tree kd ag sz rows foc)=>(match kd with
     | .row=>(match foc with
      | some kc=>(match hi with
       | some _=>Ay (Nat.beq sz jj.size)<| Iq ti s 0 lo fun l=>Iq ti s 0 hi fun u=>(l=0∧u=(kc.1:Int))∧∃r1 r2,rows.take kc.1=r1∧rows.drop (kc.1+1)=r2∧
         k ⟨.v (.c (.ow (.loc fresh))),[j],[(j,.part (kc.1+1) ag sz r2),(.loc fresh,.part 0 ag sz r1)]⟩
       | none=>False)
      | none=>False)
     | _=>False)
    | some (.part c ag sz rows)=>Ay (Nat.beq sz jj.size)<| Iq ti s 0 lo fun l=>Iq ti s ((c+rows.length:Nat):Int) hi fun u=>(l=(c:Int)∧u=((c+rows.length:Nat):Int))∧
      k ⟨.v (.c (.ow (.loc fresh))),[j],[(j,.gone),(.loc fresh,.part 0 ag sz rows)]⟩
    | _=>False)
   | some _=>False)
  | _=>False
 | _=>False
section
variable {C:Cx}{ti:Types}{o:Oper}{fresh:Nat}{s:AN}{h:AE}{k:Out→Prop}
theorem Nb (hti:Ao C.P ti) {t e:TypeId}{q j:TI}(hq:ti t=some q) (hd:q.desc= .slice e) (hj:ti e=some j) {a:Act}{w:World}{x:Operand}{lo hi:Option Operand}(ho:o.op= .slice t x lo hi none)
  {A:Option Addr} {n cap:Nat} (hx:a.eval x= .slice A n cap) {l u:Int} (h0:0≤l) (h1:l≤u) (h2:u≤n) (hnc:n≤cap) (hl:(lo=none∧l=0)∨∃y q,lo=some y∧a.eval y= .int q l) (hu:(hi=none∧u=n)∨∃y q,hi=some y∧a.eval y= .int q u):
  (execOp a.eval o).run C.P w= .ok (.value (.slice (if cap=l.toNat then A else A.map (·.add (l.toNat*j.size))) (u.toNat - l.toNat) (cap - l.toNat))) w:=by
 have e1:=B2 hti hq w
 rw[hd]at e1
 have e4:=Dl hti hj w
 have hb:(Instr.sliceBounds true n cap (lo.map a.eval) (hi.map a.eval) none).run C.P w= .ok (l.toNat,u.toNat,cap) w:=by
  rcases hu with⟨rfl,rfl⟩ | ⟨z,q',rfl,hz⟩
  ·rcases hl with⟨rfl,rfl⟩ | ⟨z,q',rfl,hz⟩
   ·simp[Instr.sliceBounds]
   ·simp[Instr.sliceBounds,hz,Bv (P:=C.P) (w:=w) h0 h1]
  ·have e6:=Bv (P:=C.P) (w:=w) (q:=q') (n:=u) (y:=cap) (code:=.sliceAcap) (by omega) (by omega)
   rcases hl with⟨rfl,rfl⟩ | ⟨z2,q2,rfl,hz2⟩
   ·simp[Instr.sliceBounds,hz,e6]
   ·simp[Instr.sliceBounds,hz,e6,hz2,Bv (P:=C.P) (w:=w) (q:=q2) (n:=l) (y:=u.toNat) (code:=.sliceB) h0 (by omega)]
 simp[execOp,ho,Instr.sliceAt,Instr.slice,e1,hx,hb,e4]
theorem Wz (hti:Ao C.P ti) (t:TypeId) (x:Operand) (lo hi mx:Option Operand) (ho:o.op= .slice t x lo hi mx) (hk:K9 ti s t (AP ti s t x) lo hi mx fresh h k):∃out,k out∧A0 C o fresh s h out:=by
 unfold K9 at hk
 obtain⟨q,hq,hk⟩:=AF.1 hk
 have bnd:∀{F:Nat→Prop} {σs:AN} {σh:AE} {g:AL} {a:Act} {w:World} (R:AR C F σs σh g a w),(∀t,Operand.tmp t∈o.op.operands.toList→σs t=s t)→
   ∀y q n,(lo=some y∨hi=some y∨mx=some y)→AP ti s 3 y= .v (.d (.int q n))→a.eval y= .int q n:=by
  intro F σs σh g a w R hs y q n hy hop
  have hx:=AI ti 3 y R (s:=s) (fun t ht=>hs t (by subst ht;rcases hy with h | h | h<;>simp[ho,Op.operands,h]))
  rw[hop]at hx
  exact ET hx
 split at hk
 ·rename_i e hd
  obtain⟨jj,hjj,hk⟩:=AF.1 hk
  split at hk
  ·rename_i j hop
   split at hk
   ·split at hk
    ·rename_i kd ag sz rows foc hj
     split at hk
     ·split at hk
      ·rename_i kc
       cases hi with
       | none=>exact hk.elim
       | some hi0=>
        replace hk:=AA.1 hk
        obtain⟨hsz,hk⟩:=hk
        have hsz:=Nat.eq_of_beq_eq_true hsz
        replace hk:=EX hk
        obtain⟨l,hk,hl⟩:=hk
        replace hk:=EX hk
        obtain⟨u,hk,hu⟩:=hk
        obtain⟨⟨rfl,rfl⟩,r1,r2,rfl,rfl,hk⟩:=hk
        refine⟨_,hk,?_⟩
        rintro F σs σh a w Q ⟨g,R⟩ hs hrd hF hdst
        have hx:=AI ti t x R (s:=s) (fun t ht=>hs t (by subst ht;simp[ho,Op.operands]))
        rw[hop]at hx
        have hσ:=(hrd j (by simp)).trans hj
        obtain⟨_,_,hv⟩:=hx
        have hv:=hv (by rw[hσ];rfl)
        obtain⟨q0,cap,e1,e2,e3,e4,g',R',hrel⟩:=R.jZ hσ (hF 0 (by omega))
        have hrun:=Nb (o:=o) hti hq hd hjj (a:=a) (w:=w) (x:=x) (lo:=lo) (hi:=some hi0) ho (hv.trans e1) (l:=0) (u:=(kc.1:Int)) (by omega) (by omega) (by omega) e3
         (by
          rcases hl with⟨h1,_⟩ | ⟨y,q,h1,h2⟩
          ·exact .inl ⟨h1,rfl⟩
          ·exact .inr ⟨y,q,h1,bnd R hs y q _ (.inl h1) h2⟩)
         (by
          rcases hu with⟨h1,_⟩ | ⟨y,q,h1,h2⟩
          ·cases h1
          ·exact .inr ⟨y,q,h1,bnd R hs y q _ (.inr (.inl h1)) h2⟩)
        rw[if_neg (by simp;omega)]at hrun
        simp only[Int.toNat_zero,Nat.zero_mul,Option.map_some,BN,Nat.sub_zero,Int.toNat_natCast,Nat.add_zero]at hrun
        unfold Oper.wp
        rw[hrun]
        exact⟨g',(R'.put hdst (v:=.v (.c (.ow (.loc fresh)))) hrel).AW (fun n hn=>⟨hn.1,fun e=>hn.2 (by omega)⟩)⟩
      ·exact hk.elim
     ·exact hk.elim
    ·rename_i c ag sz rows hj
     replace hk:=AA.1 hk
     obtain⟨hsz,hk⟩:=hk
     have hsz:=Nat.eq_of_beq_eq_true hsz
     replace hk:=EX hk
     obtain⟨l,hk,hl⟩:=hk
     replace hk:=EX hk
     obtain⟨u,hk,hu⟩:=hk
     obtain⟨⟨rfl,rfl⟩,hk⟩:=hk
     refine⟨_,hk,?_⟩
     rintro F σs σh a w Q ⟨g,R⟩ hs hrd hF hdst
     have hx:=AI ti t x R (s:=s) (fun t ht=>hs t (by subst ht;simp[ho,Op.operands]))
     rw[hop]at hx
     have hσ:=(hrd j (by simp)).trans hj
     obtain⟨_,_,hv⟩:=hx
     have hv:=hv (by rw[hσ];rfl)
     obtain⟨A,cap,e1,e3,e4,next⟩:=R.kA hσ (hF 0 (by omega))
     have hrun:=Nb (o:=o) hti hq hd hjj (a:=a) (w:=w) (x:=x) (lo:=lo) (hi:=hi) ho (hv.trans e1) (l:=(c:Int)) (u:=((c+rows.length:Nat):Int)) (by omega) (by omega) (by omega) e3
      (by
       rcases hl with⟨h1,h2⟩ | ⟨y,q,h1,h2⟩
       ·exact .inl ⟨h1,h2⟩
       ·exact .inr ⟨y,q,h1,bnd R hs y q _ (.inl h1) h2⟩)
      (by
       rcases hu with⟨h1,h2⟩ | ⟨y,q,h1,h2⟩
       ·exact .inl ⟨h1,rfl⟩
       ·exact .inr ⟨y,q,h1,bnd R hs y q _ (.inr (.inl h1)) h2⟩)
     simp only[Int.toNat_natCast,Nat.add_sub_cancel_left]at hrun
     obtain⟨g',R',hrel⟩:=next (if cap=c then A else A.map (·.add (c*jj.size))) (fun hp=>by rw[if_neg (by omega),hsz])
     unfold Oper.wp
     rw[hrun]
     exact⟨g',(R'.put hdst (v:=.v (.c (.ow (.loc fresh)))) hrel).AW (fun n hn=>⟨hn.1,fun e=>hn.2 (by omega)⟩)⟩
    ·exact hk.elim
   ·exact hk.elim
  ·exact hk.elim
 ·exact hk.elim
end
end Go.AM
namespace Go.AM
open Go Go.RowKit
def eL (h:AE) (i:Id):Bool:=
 match h i with
 | some (.fnl _ _ _)=>true
 | _=>false
def L6 (x:AV) (h:AE):Bool:=
 match x with
 | .v (.c (.op i _ _ _))=>eL h i
 | .v (.c (.ow i))=>eL h i
 | _=>false
def withFn (x:AV) (h:AE) (K:Id→Nat→List FC→List D→Prop):Prop:=
 match x with
 | .v (.c (.ow id))=>match h id with
  | some (.fnl f cs rows)=>K id f cs rows
  | _=>False
 | _=>False
def Nc (ti:Types) (t:TypeId) (x:AV) (h:AE) (k:Out→Prop):Prop:=
 Ac ti t fun i=>match x with
 | .v (.c (.op id sz kk o))=>match h id with
  | some (.fnl f cs rows)=>Ay (Nat.beq sz 1)<| Ay (Nat.beq o 0)<| Ay (Nat.beq i.size 1)<| Ay (AU i.desc==false)<| ∃r,rows[kk]?=some r∧k ⟨.v (.c (.fz f (fill cs r.cells))),[id],[]⟩
  | _=>False
 | _=>False
def LA (M:AY) (ti:Types) (t:TypeId) (x i:AV) (h:AE) (k:Out→Prop):Prop:=
 Cy i fun _ n=>Ac ti t fun q=>
 match q.desc with
 | .slice e=>Ac ti e fun j=>withFn x h fun id _ _ rows=>Ay (Nat.beq j.size 1)<| (M.lock fun _=>0≤n∧n.toNat<rows.length)∧k ⟨.v (.c (.op id 1 n.toNat 0)),[id],[]⟩
 | _=>False
def Qs (M:AY) (ti:Types) (t:TypeId) (x:AV) (h:AE) (k:Out→Prop):Prop:=
 Ac ti t fun q=>match q.desc with
 | .slice _=>withFn x h fun id _ _ rows=>∃z:Int,M.lenI rows=z∧k ⟨.v (.d (.int .i64 z)),[id],[]⟩
 | _=>False
def gV (x:AV) (h:AE) (f:Nat) (cs:List FC) (K:List Id→List D→Prop):Prop:=
 match x with
 | .v (.c (.nils _ _))=>K [] []
 | .v (.c (.ow i))=>match h i with
  | some (.fnl f' cs' rows)=>f'=f∧cs'=cs∧K [i] rows
  | _=>False
 | _=>False
def JJ (M:AY) (ti:Types) (t:TypeId) (x y:AV) (fresh:Nat) (h:AE) (k:Out→Prop):Prop:=
 Ac ti t fun q=>match q.desc with
 | .slice e=>Ac ti e fun j=>Ay (Nat.beq j.size 1)<| withFn y h fun id f cs ys=>gV x h f cs fun ids rows=>Ay (nodupB (id::ids))<|
   (M.lock fun _=>rows.length+ys.length≤maxLen∧(rows.length+ys.length)*j.bytes≤140737488355328)∧∃out,rows++ys=out∧
    k ⟨.v (.c (.ow (.loc fresh))),id::ids,Aa (id::ids)++[(.loc fresh,.fnl f cs out)]⟩
 | _=>False
def YZ (len fresh:Nat) (k:Out→Prop) (_:Bool) (sz:Nat) (xs:List CV):Prop:=
 Ay (Nat.ble len maxLen)<| Ay (Nat.beq sz 1)<| ∃f cs rows,xs=rows.map (fun r:D=>CV.fz f (fill cs r.cells))∧k ⟨.v (.c (.ow (.loc fresh))),[],[(.loc fresh,.fnl f cs rows)]⟩
def Hd (ti:Types) (s:AN) (t:TypeId) (len:Nat) (parts:List (Nat×Operand)) (fresh:Nat) (k:Out→Prop):Prop:=
 Ac ti t fun q=>match q.desc with
 | .slice e=>Ac ti e fun j=>Ay (Nat.ble (len*j.size) 16777216)<| Ay (Nat.beq parts.length len)<| Ay (Nat.blt 0 j.size)<| Gq ti s e j.size 0 parts (YZ len fresh k (AU j.desc) j.size)
 | _=>False
def kR:AV→Bool
 | .v (.c (.fz _ _))=>true
 | _=>false
def Ya (ti:Types) (s:AN):List (Nat×Operand)→Bool
 | (_,x)::_=>kR (AP ti s 0 x)
 | []=>false
section
variable {C:Cx}{ti:Types}{o:Oper}{fresh:Nat}{s:AN}{h:AE}{k:Out→Prop}
theorem JK {x:AV}{K:Id→Nat→List FC→List D→Prop}(hk:withFn x h K):∃id f cs rows,K id f cs rows∧h id=some (.fnl f cs rows)∧
  ∀{w:World} {Z:Ad} {g:AL} {σh:AE} {u:Value},σh id=h id→An w Z g σh x u→u=gval (g id):=by
 unfold withFn at hk
 split at hk
 ·rename_i id
  split at hk
  ·rename_i f cs rows hid
   exact⟨id,f,cs,rows,hk,hid,fun hσ hr=>hr.2.2 (by rw[hσ,hid];rfl)⟩
  ·exact hk.elim
 ·exact hk.elim
theorem Yb (hti:Ao C.P ti) (h1:BB ti) (t:TypeId) (x:Operand) (ho:o.op= .load t x) (hk:Nc ti t (AP ti s 0 x) h k):∃out,k out∧A0 C o fresh s h out:=by
 unfold Nc at hk
 obtain⟨i,hi,hk⟩:=AF.1 hk
 split at hk
 ·rename_i id sz kk oo hop
  split at hk
  ·rename_i f cs rows hid
   replace hk:=AA.1 hk
   obtain⟨e1,hk⟩:=hk
   replace hk:=AA.1 hk
   obtain⟨e2,hk⟩:=hk
   replace hk:=AA.1 hk
   obtain⟨e3,hk⟩:=hk
   replace hk:=AA.1 hk
   obtain⟨e4,r,hr,hk⟩:=hk
   have e1:=Nat.eq_of_beq_eq_true e1
   have e2:=Nat.eq_of_beq_eq_true e2
   have e3:=Nat.eq_of_beq_eq_true e3
   have e4:AU i.desc=false:=by simpa using e4
   subst e1;subst e2
   refine⟨_,hk,AG fun F σs σh g a w R hs hrd=>?_⟩
   have hσ:=hrd id (by simp)
   have hu:=AI ti 0 x R (s:=s) (fun k hk=>hs k (by subst hk;simp[ho,Op.operands]))
   rw[hop]at hu
   obtain⟨b,hb,hu⟩:=hu.2.2 (by rw[hσ,hid];rfl)
   obtain⟨ht,hbl,xs,hx,hrel⟩:=R.heap.objs id _ (hσ.trans hid)
   have hklt:=(List.getElem?_eq_some_iff.1 hr).1
   have hl:=hx.len
   obtain⟨u,hxu⟩:∃u,xs[kk]?=some u:=⟨_,List.getElem?_eq_getElem (by omega)⟩
   obtain⟨v,hv,_,hb'⟩:=B8 (P:=C.P) (w:=w) (vs:=#[u]) (b:=b) (q:=kk*1+0) hti h1 hi (by simp[e3]) (fun j u' hu'=>by
    cases j with
    | zero=>simp at hu';subst hu';have:=hx.cell rfl hb hxu;simpa using this
    | succ j=>simp at hu')
   have hvu:=hb' e4
   obtain rfl:u=v:=by simpa using hvu
   exact⟨u,by simp only[execOp,ho,hu];exact Bb hv,hrel kk r u hr hxu⟩
  ·exact hk.elim
 ·exact hk.elim
theorem W0 (hti:Ao C.P ti) (t:TypeId) (x y:Operand) (ho:o.op= .indexAddr t x y) (hk:LA C.M ti t (AP ti s t x) (AP ti s 3 y) h k):∃out,k out∧A0 C o fresh s h out:=by
 unfold LA at hk
 obtain⟨q,n,hyv,hk⟩:=B6.1 hk
 obtain⟨i,hi,hk⟩:=AF.1 hk
 split at hk
 ·rename_i e hdesc
  obtain⟨j,hj,hk⟩:=AF.1 hk
  obtain⟨id,f,cs,rows,hk,hid,hrel⟩:=JK hk
  obtain⟨hsz,hlk,hk⟩:=AA.1 hk
  obtain⟨h0,hlt⟩:=(C.M.lock_iff _).1 hlk
  have hsz:=Nat.eq_of_beq_eq_true hsz
  refine⟨_,hk,AG fun F σs σh g a w R hs hrd=>?_⟩
  have hσ:=hrd id (by simp)
  have hv:=hrel hσ (AI ti t x R (s:=s) (fun k hk=>hs k (by subst hk;simp[ho,Op.operands])))
  have hn:=AI ti 3 y R (s:=s) (fun k hk=>hs k (by subst hk;simp[ho,Op.operands]))
  rw[hyv]at hn
  have hn:=ET hn
  obtain⟨ht,hbl,xs,hx,_⟩:=R.heap.objs id _ (hσ.trans hid)
  obtain⟨A,cap,hg,hcap,hmax,hA⟩:=hx.row
  obtain⟨b,rfl⟩:=hA (by omega)
  rw[hg]at hv
  refine⟨.pointer (some ⟨b,n.toNat*1,none⟩),?_,rfl,ht,fun _=>⟨b,by rw[hg];rfl,by simp⟩⟩
  have h1:=B2 hti hi w
  rw[hdesc]at h1
  have h2:=Dl hti hj w
  have h3:0≤n∧n<(rows.length:Int):=by omega
  simp only[execOp,ho]
  refine Bb ?_
  simp[Instr.indexAt,asIntOf,h1,h2,hv,hn,h3,BN,Instr.sureAddr,hsz]
 ·exact hk.elim
theorem cG (hti:Ao C.P ti) (t:TypeId) (x:Operand) (ho:o.op= .call {callee:=.builtin .len,args:=#[x],argTypes:=#[t]}) (hk:Qs C.M ti t (AP ti s t x) h k):∃out,k out∧A0 C o fresh s h out:=by
 unfold Qs at hk
 obtain⟨i,hi,hk⟩:=AF.1 hk
 split at hk
 ·rename_i e hdesc
  obtain⟨id,f,cs,rows,hk,hid,hrel⟩:=JK hk
  obtain⟨z,hz,hk⟩:=hk
  refine⟨_,hk,AG fun F σs σh g a w R hs hrd=>?_⟩
  have hσ:=hrd id (by simp)
  have hv:=hrel hσ (AI ti t x R (s:=s) (fun k hk=>hs k (by subst hk;simp[ho,Op.operands,Call.operands])))
  obtain⟨ht,hbl,xs,hx,_⟩:=R.heap.objs id _ (hσ.trans hid)
  obtain⟨A,cap,hg,_⟩:=hx.row
  rw[hg]at hv
  rw[←hz,C.M.lenI_eq]
  refine⟨.int .i64 rows.length,?_,.int _ _⟩
  have h1:=B2 hti hi w
  rw[hdesc]at h1
  simp[execOp,ho,resolve,invoke,builtin,Builtin.len_,h1,hv,goInt]
 ·exact hk.elim
structure oS (w:World) (X:Ad) (g:AL) (σh:AE) (f:Nat) (cs:List FC) (ids:List Id) (rows:List D) (u:Value):Prop where
 whole:∀i∈ids,∃ob,σh i=some ob∧B7 ob
 own:∃xs,Holds w .row 1 u rows.length xs∧(∀(i:Nat) r u,rows[i]?=some r→xs[i]?=some u→FB w (Al (zone g σh) X) g f (fill cs r.cells) u)∧(∀b,blk u=some b→∃i∈ids,BC (g i) b)
theorem Yc {w:World}{X:Ad}{g:AL}{σh:AE}{f:Nat}{cs:List FC}{rows:List D}{i:Id}{u:Value}(RH:C9 w X g σh) (hσ:σh i=some (.fnl f cs rows)) (hv:u=gval (g i)):oS w X g σh f cs [i] rows u:=by
 obtain⟨ht,hb,xs,hx,hc⟩:=RH.objs i _ hσ
 refine⟨fun j hj=>?_,xs,by rw[hv];exact hx,hc,fun b hbb=>⟨i,by simp,(hb b).2 (by rw[←hv];exact hbb)⟩⟩
 obtain rfl:j=i:=by simpa using hj
 exact⟨_,hσ,trivial⟩
theorem cH {x:AV}{f:Nat}{cs:List FC}{K:List Id→List D→Prop}(hk:gV x h f cs K):
  ∃ids rows,K ids rows∧∀{w:World} {X:Ad} {g:AL} {σh:AE} {u:Value},C9 w X g σh→(∀i∈ids,σh i=h i)→An w (Al (zone g σh) X) g σh x u→oS w X g σh f cs ids rows u:=by
 unfold gV at hk
 split at hk
 ·refine⟨[],[],hk,fun _ _ hr=>⟨by simp,[],?_⟩⟩
  rw[show _=_ from hr]
  exact⟨⟨0,World.ownsRow_nil _ 0 0 1⟩,by simp,by simp[blk]⟩
 ·rename_i i
  split at hk
  ·rename_i f' cs' rows hid
   obtain⟨rfl,rfl,hk⟩:=hk
   exact⟨[i],rows,hk,fun RH he hr=>Yc RH ((he i (by simp)).trans hid) (hr.2.2 (by rw[he i (by simp),hid];rfl))⟩
  ·exact hk.elim
 ·exact hk.elim
theorem Um (hti:Ao C.P ti) (t:TypeId) (x y:Operand) (ho:o.op= .call {callee:=.builtin .append,args:=#[x,y],argTypes:=#[t,t]}) (hk:JJ C.M ti t (AP ti s t x) (AP ti s t y) fresh h k):∃out,k out∧A0 C o fresh s h out:=by
 unfold JJ at hk
 obtain⟨q,hq,hk⟩:=AF.1 hk
 split at hk
 ·rename_i e hd
  obtain⟨j,hj,hk⟩:=AF.1 hk
  obtain⟨hsz,hk⟩:=AA.1 hk
  have hsz:=Nat.eq_of_beq_eq_true hsz
  obtain⟨id,f,cs,ys,hk,hid,hyrel⟩:=JK hk
  obtain⟨ids,rows,hk,hold⟩:=cH hk
  replace hk:=AA.1 hk
  obtain⟨hnd,hlk,out,rfl,hk⟩:=hk
  obtain⟨hmax,hbytes⟩:=(C.M.lock_iff _).1 hlk
  have hnd:=Ba.1 hnd
  refine⟨_,hk,?_⟩
  rintro F σs σh a w Q ⟨g,R⟩ hs hrd hF hdst
  have hx:=AI ti t x R (s:=s) (fun k hk=>hs k (by subst hk;simp[ho,Op.operands,Call.operands]))
  have hy:=AI ti t y R (s:=s) (fun k hk=>hs k (by subst hk;simp[ho,Op.operands,Call.operands]))
  obtain⟨w1,xs,p1,p2,p4⟩:=hold R.heap (fun i hi=>hrd i (by simp[hi])) hx
  have hyσ:=(hrd id (by simp)).trans hid
  obtain⟨w2,news,q1,q2,q4⟩:=Yc R.heap hyσ (hyrel (hrd id (by simp)) hy)
  obtain⟨A,cap,hv,hcap,hmx,hA⟩:=q1.row
  have n1:news.length=ys.length*j.size:=by rw[hsz];exact q1.len
  have hB:0<ys.length→∃bb oo,A=some ⟨bb,oo,none⟩∧∀(k:Nat) u,news[k]?=some u→w.cell? ⟨bb,oo+k,none⟩=some u:=by
   intro h0
   obtain⟨b,rfl⟩:=hA h0
   refine⟨b,0,rfl,fun k u hu=>?_⟩
   have:=q1.cell rfl (b:=b) (by rw[hv];rfl) hu
   simpa using this
  have n2:∀u∈news,u.oneCell'=true:=by
   intro u hu
   obtain⟨k,hk⟩:=List.mem_iff_getElem?.1 hu
   have hlt:=(List.getElem?_eq_some_iff.1 hk).1
   have hl:=q1.len
   obtain⟨ps,rfl,_⟩:=q2 k (ys[k]'(by omega)) u (List.getElem?_eq_getElem (by omega)) hk
   rfl
  have p1':Holds w .row j.size (a.eval x) rows.length xs:=by rw[hsz];exact p1
  obtain⟨v',w',hrun,r1,r2,r3,r4⟩:=FH hti (ty:=o.type) hq hd hj (by omega) p1' (B:=A) (c:=cap) n1 hB n2 hmax hbytes
  have hlx:xs.length=rows.length:=by have:=p1.len;omega
  have hw:∀i∈id::ids,∃ob,σh i=some ob∧B7 ob:=by
   intro i hi
   rcases List.mem_cons.1 hi with rfl | hi
   ·exact⟨_,hyσ,trivial⟩
   ·exact w1 i hi
  obtain⟨g',R',hrel⟩:=R.Ku (T0:=id::ids) hw (n:=fresh) (hF 0 (by omega)) r2 (fun b hb hn=>r3 b hb fun he=>by
    obtain⟨i,hi,hb'⟩:=p4 b he
    exact hn i (by simp[hi]) hb') (ob:=.fnl f cs (rows++ys)) (fun _ _ _ h=>h) (v:=v') (fun b=>blk v'=some b) (blk v').toList (fun b hb=>by simp[hb]) (fun b hb=>by
     rcases r4 b hb with hb | hb
     ·obtain⟨i,hi,hb'⟩:=p4 b hb
      exact .inl ⟨i,by simp[hi],hb'⟩
     ·exact .inr hb) r1.BW
   (fun Z' g' h' gv gt gg gb E=>⟨gt,fun b=>by rw[gb,gg],xs++news,by rw[gg,List.length_append];rw[hsz]at r1;exact r1,fun k r u hr hu=>by
     by_cases hkl:k<rows.length
     ·rw[List.getElem?_append_left hkl]at hr
      rw[List.getElem?_append_left (by omega)]at hu
      exact E.Xz (p2 k r u hr hu)
     ·rw[List.getElem?_append_right (by omega)]at hr
      rw[List.getElem?_append_right (by omega),hlx]at hu
      exact E.Xz (q2 _ r u hr hu)⟩)
  unfold Oper.wp
  rw[CH (r:=.ok v' w') ho (by rw[hv];exact hrun)]
  rw[show Aq σh (Aa (id::ids)++[(.loc fresh,.fnl f cs (rows++ys))])=AJ (Aq σh (Aa (id::ids))) (.loc fresh) (.fnl f cs (rows++ys))from Cz]
  exact⟨g',(R'.put hdst (v:=.v (.c (.ow (.loc fresh)))) hrel).AW (fun n hn=>⟨hn.1,fun e=>hn.2 (by omega)⟩)⟩
 ·exact hk.elim
theorem Nd (hti:Ao C.P ti) (t:TypeId) (len:Nat) (parts:Array (Nat×Operand)) (ho:o.op= .buildSlice t len parts) (hk:Hd ti s t len parts.toList fresh k):∃out,k out∧A0 C o fresh s h out:=by
 obtain⟨e,j,xs,hj,hsz,hk',hyl,hle,H⟩:=Ek (C:=C) (K:=YZ len fresh k) hti t len parts ho hk
 replace hk':=AA.1 hk'
 obtain⟨hmx,hk'⟩:=hk'
 replace hk':=AA.1 hk'
 obtain⟨hs1,f,cs,rows,rfl,hk2⟩:=hk'
 have hmx:=Nat.le_of_ble_eq_true hmx
 have hs1:=Nat.eq_of_beq_eq_true hs1
 refine⟨_,hk2,?_⟩
 rintro F σs σh a w Q ⟨g,R⟩ hs hrd hF hdst
 obtain⟨vs,hrun,h2⟩:=H F σs σh g a w R hs
 have hl0:rows.length=len:=by rw[hs1]at hyl;simpa using hyl
 have hl1:vs.size=len*1:=by have:=h2.1;simp at this;omega
 have hho:Holds (w.alloc (.cells vs e)) .row 1 (.slice (some ⟨w.heap.size,0,none⟩) len len) rows.length vs.toList:=by
  rw[hl0]
  refine⟨e,by simp[hl1],.inr ⟨w.heap.size,len,vs,rfl,Nat.zero_le _,heap_alloc_new w _,Nat.le_refl _,hmx,hl1,?_⟩⟩
  exact List.take_of_length_le (by simp[hl1])
 obtain⟨g',R',hrel⟩:=R.Ku (T0:=[]) (by simp) (n:=fresh) (w':=w.alloc (.cells vs e)) (hF 0 (by omega)) ⟨rfl,rfl,rfl,by simp⟩ (fun b hb _=>Below.heap_alloc w _ b hb) (ob:=.fnl f cs rows) (fun _ _ _ h=>h)
  (v:=.slice (some ⟨w.heap.size,0,none⟩) len len) (fun b=>b=w.heap.size) [w.heap.size] (fun b hb=>by simp[hb]) (fun b hb=>.inr (by omega)) rfl
  (fun Z' g' h' gv gt gg gb E=>⟨gt,fun b=>by rw[gb,gg];simp[blk];exact eq_comm,vs.toList,by rw[gg];exact hho,fun k r u hr hu=>
   E.Xz (h2.2 k (.fz f (fill cs r.cells)) u (by rw[List.getElem?_map,hr];rfl) (by simpa using hu))⟩)
 unfold Oper.wp
 rw[hrun]
 rw[show Aq σh [(.loc fresh,.fnl f cs rows)]=AJ (Aq σh (Aa [])) (.loc fresh) (.fnl f cs rows)from rfl]
 exact⟨g',(R'.put hdst (v:=.v (.c (.ow (.loc fresh)))) hrel).AW (fun n hn=>⟨hn.1,fun e=>hn.2 (by omega)⟩)⟩
end
end Go.AM
namespace Go.AM
open Go Go.RowKit
def GA (s:ByteArray):List D:=s.data.toList.map fun b=>D.int .u8 (b.toNat:Int)
theorem Fw (s:ByteArray):(GA s).length=s.size:=by
 rw[GA,List.length_map,Array.length_toList]
 rfl
theorem IV (s:ByteArray):∀x∈GA s,x.fits false 1:=by
 intro x hx
 obtain⟨b,_,rfl⟩:=List.mem_map.1 hx
 exact⟨rfl,rfl,by simp[D.cells,D.isAgg]⟩
theorem Nf {w:World}{Z:Ad}(s:ByteArray):∀(i:Nat) x (q:Nat) c,(GA s)[i]?=some x→x.cells[q]?=some c→∃u,(Go.Lib.strCells s)[i*1+q]?=some u∧AX w Z c u:=by
 intro i x q c hx hq
 rw[GA,List.getElem?_map]at hx
 obtain⟨b,hb,rfl⟩:=Option.map_eq_some_iff.1 hx
 simp only[D.cells]at hq
 match q with
 | 0=>
  obtain rfl:=Option.some.inj hq
  exact⟨.int .u8 b.toNat,by rw[Go.Lib.strCells,List.getElem?_map];simp[hb],.int _ _⟩
 | q+1=>simp at hq
def gW:Value→Bool
 | .int .u8 (.ofNat 0)=>true
 | _=>false
theorem cI {v:Value}(h:gW v=true):v= .int .u8 0:=by
 unfold gW at h
 split at h
 ·rfl
 ·cases h
def Un:TypeDesc→Bool
 | .string=>true
 | _=>false
theorem W1 {d:TypeDesc}(h:Un d=true):d= .string:=by
 unfold Un at h
 split at h
 ·rfl
 ·cases h
def Yd:AV→Bool
 | .v (.d (.str _))=>true
 | _=>false
def Gy (M:AY) (ti:Types) (t u:TypeId) (x y:AV) (fresh:Nat) (h:AE) (k:Out→Prop):Prop:=
 Ac ti t fun q=>match q.desc with
 | .slice e=>Ac ti e fun j=>Ay (Nat.beq j.size 1)<| Ay (Nat.beq j.bytes 1)<| Ay (gW j.zero)<| Ac ti u fun qu=>Ay (Un qu.desc)<| match y with
  | .v (.d (.str b))=>match x with
   | .v (.c (.nils _ _))=>(M.lock fun _=>([]:List D).length+b.size≤maxLen∧([]:List D).length+b.size≤140737488355328)∧∃out,([]:List D)++GA b=out∧k ⟨.v (.c (.lst (.loc fresh) false 1 out)),[],[(.loc fresh,.tok out.length 1 e)]⟩
   | .v (.c (.lst (.loc i) ag' sz' rows))=>Ay (BQ ag')<| Ay (Nat.beq sz' 1)<| match h (.loc i)with
    | some (.tok n sz2 e2)=>Ay (Nat.beq sz2 1)<| Ay (Nat.beq e2 e)<| rows.length=n∧(M.lock fun _=>rows.length+b.size≤maxLen∧rows.length+b.size≤140737488355328)∧
      ∃out,rows++GA b=out∧k ⟨.v (.c (.lst (.loc i) false 1 out)),[.loc i],[(.loc i,.tok out.length 1 e)]⟩
    | _=>False
   | _=>False
  | _=>False
 | _=>False
section
variable {C:Cx}{ti:Types}{o:Oper}{fresh:Nat}{s:AN}{h:AE}{k:Out→Prop}
theorem Iw {P:Program}{o:Oper}{a:Act}{x y:Operand}{t u:TypeId}{w:World}(ho:o.op= .call {callee:=.builtin .append,args:=#[x,y],argTypes:=#[t,u]})
  {v:Value} {w':World} (h:(Builtin.append_ #[t,u] o.type #[a.eval x,a.eval y]).run P w= .ok v w'):(execOp a.eval o).run P w= .ok (.value v) w':=by
 simp[execOp,ho,resolve,invoke,builtin,h]
theorem Et {P:Program}{w:World}{t u ty e:TypeId}{i:TypeInfo}(ht:P.underlying t=some (.slice e)) (hu:P.underlying u=some .string) (hi:P.info? e=some i) (hs:i.size=1) {b:ByteArray}(hb:b.size=0)
  {base:Option Addr} {n cap:Nat} (hn:n≤cap):(Builtin.append_ #[t,u] ty #[.slice base n cap,.string b]).run P w= .ok (.slice base n cap) w:=by
 have hf:=Go.Lib.run_firstCells_string (P:=P) w 1 b
 have e0:Go.Lib.strCells b=[]:=List.eq_nil_of_length_eq_zero (by rw[Go.Lib.strCells_length];exact hb)
 rw[hb,e0]at hf
 cases base<;>simp[Builtin.append_,run_underlying ht,run_underlying hu,sizeOf,typeInfo,hi,hs,Builtin.lenOf,hb,hf,hn,storeCells]
theorem Qt {w:World}{Z:Ad}{g:AL}{h:AE}{b:ByteArray}{v:Value}(h:An w Z g h (.v (.d (.str b))) v):v= .string b:=by
 cases h;rfl
theorem O9 (hti:Ao C.P ti) {t u e:TypeId}{q qu j:TI}(hq:ti t=some q) (hd:q.desc= .slice e) (hj:ti e=some j) (hqu:ti u=some qu) (hdu:qu.desc= .string) (hs1:j.size=1) (hb1:j.bytes=1) (hz:j.zero= .int .u8 0)
  (x y:Operand) (ho:o.op= .call {callee:=.builtin .append,args:=#[x,y],argTypes:=#[t,u]})
  {i:Nat} {rows:List D} {b:ByteArray} (hx0:AP ti s t x= .v (.c (.lst (.loc i) false 1 rows))) (hi:h (.loc i)=some (.tok rows.length 1 e))
  (hy0:AP ti s u y= .v (.d (.str b)))
  (hmax:rows.length+b.size≤maxLen) (hbytes:rows.length+b.size≤140737488355328):
  A0 C o fresh s h ⟨.v (.c (.lst (.loc i) false 1 (rows++GA b))),[.loc i],[(.loc i,.tok (rows++GA b).length 1 e)]⟩:=by
 rintro F σs σh a w Q ⟨g,R⟩ hs hrd hF hdst
 have hσi:σh (.loc i)=some (.tok rows.length 1 e):=(hrd _ (by simp)).trans hi
 have hx:=AI ti t x R (s:=s) (fun k hk=>hs k (by subst hk;simp[ho,Op.operands,Call.operands]))
 rw[hx0]at hx
 obtain⟨hrx,hsl,htok⟩:=hx
 obtain⟨_,_,hv⟩:=htok _ _ _ hσi
 have hv:=hv rfl
 have hry:=AI ti u y R (s:=s) (fun k hk=>hs k (by subst hk;simp[ho,Op.operands,Call.operands]))
 rw[hy0]at hry
 have hyv:a.eval y= .string b:=Qt hry
 have ht:C.P.underlying t=some (.slice e):=by rw[(hti t q hq).1,hd]
 have hu:C.P.underlying u=some .string:=by rw[(hti u qu hqu).1,hdu]
 obtain⟨ii,i1,i2,i3,i4,i5⟩:=CT hti hj
 rw[hs1]at i2
 rw[hb1]at i3
 rw[hz]at i4
 obtain⟨_,xs,hown⟩:=R.heap.objs _ _ hσi
 have hl:(rows++GA b).length=rows.length+b.size:=by rw[List.length_append,Fw]
 -- the end: a run, and what it leaves
 have fin:∀v' w',(Builtin.append_ #[t,u] o.type #[a.eval x,a.eval y]).run C.P w= .ok v' w'→
   (AR C F σs (AJ σh (.loc i) (.tok (rows++GA b).length 1 e)) (Ah g (.loc i) v') a w'∧
   Au w' (Al (zone (Ah g (.loc i) v') (AJ σh (.loc i) (.tok (rows++GA b).length 1 e))) C.X) (Ah g (.loc i) v') (AJ σh (.loc i) (.tok (rows++GA b).length 1 e)) (.lst (.loc i) false 1 (rows++GA b)) v')→
   o.wp C.P a w (fun a' w'=>Rel C (fun n=>F n∧¬(fresh≤n∧n<fresh+32)) (Bp σs o.dst (.v (.c (.lst (.loc i) false 1 (rows++GA b))))) (Aq σh [(.loc i,.tok (rows++GA b).length 1 e)]) a' w') Q:=by
  rintro v' w' hrun ⟨R',hlst⟩
  unfold Oper.wp
  rw[Iw ho hrun]
  exact⟨_,(R'.put hdst (v:=.v (.c (.lst (.loc i) false 1 (rows++GA b)))) hlst).AW (fun n hn=>hn.1)⟩
 rw[hyv]at fin
 by_cases hys:b.size=0
 ·have hnil:GA b=[]:=List.eq_nil_of_length_eq_zero (by rw[Fw];exact hys)
  obtain⟨hlx,h2⟩:=hown
  have hrun:(Builtin.append_ #[t,u] o.type #[a.eval x,.string b]).run C.P w= .ok (g (.loc i)) w:=by
   rw[hv]
   rcases h2 with⟨h3,h4⟩ | ⟨qb,cap,cur,h3,_,h5,h6,_⟩
   ·rw[h3];exact Et ht hu i1 i2 hys (Nat.le_refl _)
   ·rw[h3];exact Et ht hu i1 i2 hys h6
  refine fin (g (.loc i)) w hrun ?_
  rw[hnil]
  have e1:AJ σh (.loc i) (.tok (rows++[]).length 1 e)=σh:=Pb (by simpa using hσi)
  rw[e1,Pc]
  refine⟨R,?_⟩
  rw[List.append_nil,←hv]
  exact⟨hrx,hsl,fun n sz' e' hn=>htok n sz' e' hn⟩
 ·generalize hgi:g (.loc i)=gi at hown hv
  rw[hv]at hrx fin
  have hown0:w.ownsRow 0 e 1 gi rows.length xs:=⟨hown.1,by
   rcases hown.2 with hh | ⟨qb,cap,cur,h3,h4,h5⟩
   ·exact .inl hh
   ·exact .inr ⟨qb,cap,cur,h3,Nat.zero_le _,h5⟩⟩
  obtain⟨v',w',hrun,r1,r2,_⟩:=Go.Lib.run_append_own_string (P:=C.P) w 0 t u o.type e ii ht hu i1 i4 i2 i3 gi rows.length xs hown0 b hmax hbytes (Nat.zero_le _)
  obtain⟨g1,g2,g3,g4,g5⟩:=r2
  obtain⟨hlx,h2⟩:=hown
  rcases h2 with⟨rfl,h4⟩ | ⟨qb,cap,cur,rfl,_,h5,h6,h7,h8,h9⟩
  ·-- the list is nil
   have hr0:rows=[]:=List.eq_nil_of_length_eq_zero h4
   subst hr0
   have hx0:xs=[]:=List.eq_nil_of_length_eq_zero (by simpa using hlx)
   subst hx0
   have hpos:0<(GA b).length:=by rw[Fw];omega
   obtain⟨v2,w2,hrun2,r3,r4,_⟩:=Go.Lib.run_append_own_string (P:=C.P) w w.heap.size t u o.type e ii ht hu i1 i4 i2 i3 (.slice none 0 0) 0 [] (World.ownsRow_nil w _ _ _) b (by simpa using hmax) (by simpa using hbytes) (Nat.le_refl _)
   have hrun2':=hrun2
   rw[show (Builtin.append_ #[t,u] o.type #[Value.slice none 0 0,Value.string b]).run C.P w= .ok v' w' from hrun]at hrun2'
   obtain⟨rfl,rfl⟩:v'=v2∧w'=w2:=by injection hrun2' with e1 e2;exact⟨e1,e2⟩
   refine fin v' w' hrun (R.Ip (by omega) hσi (zs:=Go.Lib.strCells b) ⟨g1,g2,g3,g4⟩ (fun k hk _=>g5 k hk (by simp[Value.ownBlock])) (fun k o' u' hu' _=>?_) ?_ (fun k hk=>.inr ?_) (by rw[hl];simp;omega) (by simpa using IV b) (by simpa using Nf b))
   ·exact (World.cell?_of_block (a:=⟨k,o',none⟩) (g5 k (World.block_lt_of_cell? w ⟨k,o',none⟩ hu') (by simp[Value.ownBlock]))).trans hu'
   ·rw[hl];simpa using r1
   ·rcases r3.2 with⟨p3,_⟩ | ⟨q',c',cu',p3,p4,_⟩
    ·rw[p3]at hk;simp[blk]at hk
    ·rw[p3]at hk;simp[blk]at hk;omega
  ·-- a row
   obtain⟨_,_,_,hA,hfr,olds,o1,o2,o3,o4⟩:=hrx.Fi (by omega)
   have hxs:∀(k:Nat) u,olds[k]?=some u→xs[k]?=some u:=by
    intro k u hu
    have hc:=(o3 qb 0 rfl k u hu).1
    have hk:=(List.getElem?_eq_some_iff.1 hu).1
    rw[o1]at hk
    have:cur[k]?=some u:=by simpa [World.cell?,h5] using hc
    rw[←h9,List.getElem?_take,if_pos hk]
    simpa using this
   have o4':∀(i:Nat) x (q:Nat) c,rows[i]?=some x→x.cells[q]?=some c→∃u,xs[i*1+q]?=some u∧AX w (Al (zone g σh) C.X) c u:=by
    intro i x q c hx hq
    obtain⟨u,hu,hr⟩:=o4 i x q c hx hq
    exact⟨u,hxs _ u hu,hr⟩
   have hrow:=JC hlx (IV b) hfr o4' (Nf b)
   have hfit:=Fq hfr (IV b)
   by_cases hroom:rows.length+b.size≤cap
   ·-- in place
    have hcs:cur.size=cap:=by simpa using h8
    have hrun2:=Go.Lib.run_append_room_string (P:=C.P) w t u o.type e ii ht hu i1 i2 qb rows.length cap cur h5 b hroom (by omega)
    rw[hrun]at hrun2
    obtain⟨rfl,rfl⟩:v'= .slice (some ⟨qb,0,none⟩) (rows.length+b.size) cap∧w'=w.setRow qb (cur.toList.take rows.length++Go.Lib.strCells b++cur.toList.drop (rows.length+b.size)).toArray:=by
     injection hrun2 with e1 e2
     exact⟨e1,e2⟩
    refine fin _ _ hrun (R.Ip (by omega) hσi (zs:=xs++Go.Lib.strCells b) ⟨g1,g2,g3,g4⟩ (fun k hk hne=>g5 k hk (by rw[hgi]at hne;simpa [Value.ownBlock,blk,eq_comm] using hne)) (fun k o' u' hu' hz'=>?_) (by rw[hl];exact r1) (fun k hk=>.inl ?_) (by rw[hl];omega) hfit hrow)
    ·rw[hgi]at hz'
     by_cases hkq:k=qb
     ·subst hkq
      have hlo:o'<rows.length:=by
       by_cases hlo:o'<rows.length*1
       ·omega
       ·exact absurd ⟨rfl,by omega⟩ hz'
      have hsr:=setRow_heap w k cur (cur.toList.take rows.length++Go.Lib.strCells b++cur.toList.drop (rows.length+b.size)).toArray _ _ h5
      have hcu:cur[o']?=some u':=by simpa [World.cell?,h5] using hu'
      have hlt:o'<cur.size:=(Array.getElem?_eq_some_iff.1 hcu).1
      simp only[World.cell?,hsr]
      simp only[List.getElem?_toArray,List.append_assoc]
      rw[List.getElem?_append_left (by simp;omega),List.getElem?_take,if_pos hlo]
      simpa using hcu
     ·exact (World.cell?_of_block (a:=⟨k,o',none⟩) (setRow_other w qb k _ hkq)).trans hu'
    ·rw[hgi];exact hk
   ·-- a new row
    have holds:∀j u,xs[j]?=some u→w.cell? ((⟨qb,0,none⟩:Addr).add j)=some u:=hown0.cells (g:=qb) rfl
    have hrun2:=Go.Lib.run_append_grow_string (P:=C.P) w t u o.type e ii (.int .u8 0) ht hu i1 i4 ⟨qb,0,none⟩ rows.length cap xs (by rw[i2];exact hlx) holds b (by omega) (by simp only[maxLen]at hmax;omega) (by rw[i3];exact growslice_fits (by omega) (by omega))
    rw[hrun]at hrun2
    obtain⟨e1,e2⟩:v'= .slice (some ⟨w.heap.size,0,none⟩) (rows.length+b.size) (grownCap w (rows.length+b.size) cap e)∧w'=_:=by
     injection hrun2 with e1 e2
     exact⟨e1,e2⟩
    have hold:∀k,k<w.heap.size→w'.heap[k]?=w.heap[k]?:=fun k hk=>by rw[e2];exact heap_alloc_old w.drew _ hk
    refine fin v' w' hrun (R.Ip (by omega) hσi (zs:=xs++Go.Lib.strCells b) ⟨g1,g2,g3,g4⟩ (fun k hk _=>hold k hk) (fun k o' u' hu' _=>?_) (by rw[hl];exact r1) (fun k hk=>.inr ?_) (by rw[hl];omega) hfit hrow)
    ·exact (World.cell?_of_block (a:=⟨k,o',none⟩) (hold k (World.block_lt_of_cell? w ⟨k,o',none⟩ hu'))).trans hu'
    ·rw[e1]at hk
     simp[blk]at hk
     omega
theorem PA (hti:Ao C.P ti) {t u e:TypeId}{q qu j:TI}(hq:ti t=some q) (hd:q.desc= .slice e) (hj:ti e=some j) (hqu:ti u=some qu) (hdu:qu.desc= .string) (hs1:j.size=1) (hb1:j.bytes=1) (hz:j.zero= .int .u8 0)
  (x y:Operand) (ho:o.op= .call {callee:=.builtin .append,args:=#[x,y],argTypes:=#[t,u]})
  {b:ByteArray} {ag:Bool} {sz:Nat} (hx0:AP ti s t x= .v (.c (.nils ag sz))) (hy0:AP ti s u y= .v (.d (.str b)))
  (hmax:b.size≤maxLen) (hbytes:b.size≤140737488355328):
  A0 C o fresh s h ⟨.v (.c (.lst (.loc fresh) false 1 (GA b))),[],[(.loc fresh,.tok (GA b).length 1 e)]⟩:=by
 refine L2 (by omega) fun F σs σh g a w R hs=>?_
 have hx:=AI ti t x R (s:=s) (fun k hk=>hs k (by subst hk;simp[ho,Op.operands,Call.operands]))
 rw[hx0]at hx
 have hxv:a.eval x= .slice none 0 0:=hx
 have hry:=AI ti u y R (s:=s) (fun k hk=>hs k (by subst hk;simp[ho,Op.operands,Call.operands]))
 rw[hy0]at hry
 have hyv:a.eval y= .string b:=Qt hry
 have ht:C.P.underlying t=some (.slice e):=by rw[(hti t q hq).1,hd]
 have hu:C.P.underlying u=some .string:=by rw[(hti u qu hqu).1,hdu]
 obtain⟨ii,i1,i2,i3,i4,i5⟩:=CT hti hj
 rw[hs1]at i2
 rw[hb1]at i3
 rw[hz]at i4
 obtain⟨v',w',hrun,r1,r2,_⟩:=Go.Lib.run_append_own_string (P:=C.P) w w.heap.size t u o.type e ii ht hu i1 i4 i2 i3 (.slice none 0 0) 0 [] (World.ownsRow_nil w _ _ _) b (by simpa using hmax) (by simpa using hbytes) (Nat.le_refl _)
 refine⟨v',w',Go.Lib.strCells b,Iw ho (by rw[hxv,hyv];exact hrun),?_,by simpa [Value.ownBlock] using r2,IV b,Nf b⟩
 rw[Fw]
 simpa using r1
theorem Qu (hti:Ao C.P ti) (t u:TypeId) (x y:Operand) (ho:o.op= .call {callee:=.builtin .append,args:=#[x,y],argTypes:=#[t,u]})
  (hk:Gy C.M ti t u (AP ti s t x) (AP ti s u y) fresh h k):∃out,k out∧A0 C o fresh s h out:=by
 unfold Gy at hk
 obtain⟨q,hq,hk⟩:=AF.1 hk
 split at hk
 ·rename_i e hd
  obtain⟨j,hj,hk⟩:=AF.1 hk
  have h1:=(AA.1 hk).1;replace hk:=(AA.1 hk).2
  have h2:=(AA.1 hk).1;replace hk:=(AA.1 hk).2
  have h3:=(AA.1 hk).1;replace hk:=(AA.1 hk).2
  obtain⟨qu,hqu,hk⟩:=AF.1 hk
  have h4:=(AA.1 hk).1;replace hk:=(AA.1 hk).2
  have h1:=Nat.eq_of_beq_eq_true h1
  have h2:=Nat.eq_of_beq_eq_true h2
  have h3:=cI h3
  have h4:=W1 h4
  split at hk
  ·rename_i b hy0
   split at hk
   ·rename_i ag sz hx0
    obtain⟨hb,out,rfl,hk⟩:=hk
    obtain⟨hb1,hb2⟩:=(C.M.lock_iff _).1 hb
    exact⟨_,hk,PA hti hq hd hj hqu h4 h1 h2 h3 x y ho hx0 hy0 (by simpa using hb1) (by simpa using hb2)⟩
   ·rename_i i ag' sz' rows hx0
    have h5:=(AA.1 hk).1;replace hk:=(AA.1 hk).2
    have h6:=(AA.1 hk).1;replace hk:=(AA.1 hk).2
    have h6:=Nat.eq_of_beq_eq_true h6
    have h5:ag'=false:=by cases ag'<;>simp_all [BQ]
    subst h5
    subst h6
    split at hk
    ·rename_i n sz2 e2 hi
     have h7:=(AA.1 hk).1;replace hk:=(AA.1 hk).2
     have h8:=(AA.1 hk).1;replace hk:=(AA.1 hk).2
     have h7:=Nat.eq_of_beq_eq_true h7
     have h8:=Nat.eq_of_beq_eq_true h8
     subst h7
     subst h8
     obtain⟨rfl,hb,out,rfl,hk⟩:=hk
     obtain⟨hb1,hb2⟩:=(C.M.lock_iff _).1 hb
     exact⟨_,hk,O9 hti hq hd hj hqu h4 h1 h2 h3 x y ho hx0 hi hy0 hb1 hb2⟩
    ·exact hk.elim
   ·exact hk.elim
  ·exact hk.elim
 ·exact hk.elim
end
end Go.AM
namespace Go.AM
open Go Go.RowKit
section
variable {C:Cx}{ti:Types}{o:Oper}{fresh:Nat}{s:AN}{h:AE}{k:Out→Prop}
theorem Ea {F:Nat→Prop}{σs:AN}{σh:AE}{g:AL}{a:Act}{w:World}(R:AR C F σs σh g a w):
  ∀(l:List Operand) (ts:List TypeId) (xs:List V1),(∀t,Operand.tmp t∈l→σs t=s t)→GM (BM ti s l ts)=some xs→
   xs.length=l.length∧∀(j:Nat) x p,xs[j]?=some x→l[j]?=some p→Ag w (Al (zone g σh) C.X) g σh x (a.eval p)
 | [],ts,xs,_,he=>by
  have:xs=[]:=by cases ts<;>simpa [BM,GM] using he.symm
  subst this
  exact⟨rfl,by simp⟩
 | p::l,ts,xs,hs,he=>by
  have main:∀(t:TypeId) (ts':List TypeId),GM (AP ti s t p::BM ti s l ts')=some xs→
    xs.length=(p::l).length∧∀(j:Nat) x q,xs[j]?=some x→(p::l)[j]?=some q→Ag w (Al (zone g σh) C.X) g σh x (a.eval q):=by
   intro t ts' he
   unfold GM at he
   split at he
   ·rename_i e;simp at e
   ·rename_i y r e
    simp at e
    obtain⟨e1,rfl⟩:=e
    split at he
    ·rename_i l' hl'
     simp at he
     subst he
     obtain⟨h1,h2⟩:=Ea R l ts' l' (fun t ht=>hs t (List.mem_cons_of_mem _ ht)) hl'
     refine⟨by simp[h1],fun j x q hx hq=>?_⟩
     match j with
     | 0=>
      simp at hx hq
      subst hx;subst hq
      have:=AI ti t p R (s:=s) (fun k hk=>hs k (by simp[hk]))
      rw[e1]at this
      exact Ag.norm this
     | j+1=>simp at hx hq;exact h2 j x q hx hq
    ·simp at he
   ·simp at he
  match ts with
  | []=>exact main 0 [] he
  | t::ts'=>exact main t ts' he
theorem Jy {F:Nat→Prop}{σs:AN}{σh:AE}{g:AL}{a:Act}{w:World}(R:AR C F σs σh g a w):
  ∀(l:List Operand) (ts:List TypeId) (xs:List V1),(∀t,Operand.tmp t∈l→σs t=s t)→GN (BM ti s l ts)=some xs→
   xs.length=l.length∧∀(j:Nat) x p,xs[j]?=some x→l[j]?=some p→Ag w (Al (zone g σh) C.X) g σh x (a.eval p)
 | [],ts,xs,_,he=>by
  have:xs=[]:=by cases ts<;>simpa [BM,GN] using he.symm
  subst this
  exact⟨rfl,by simp⟩
 | p::l,ts,xs,hs,he=>by
  have main:∀(t:TypeId) (ts':List TypeId),GN (AP ti s t p::BM ti s l ts')=some xs→
    xs.length=(p::l).length∧∀(j:Nat) x q,xs[j]?=some x→(p::l)[j]?=some q→Ag w (Al (zone g σh) C.X) g σh x (a.eval q):=by
   intro t ts' he
   unfold GN at he
   split at he
   ·rename_i e;simp at e
   ·rename_i y r e
    simp at e
    obtain⟨e1,rfl⟩:=e
    split at he
    ·rename_i l' hl'
     simp at he
     subst he
     obtain⟨h1,h2⟩:=Jy R l ts' l' (fun t ht=>hs t (List.mem_cons_of_mem _ ht)) hl'
     refine⟨by simp[h1],fun j x q hx hq=>?_⟩
     match j with
     | 0=>
      simp at hx hq
      subst hx;subst hq
      have:=AI ti t p R (s:=s) (fun k hk=>hs k (by simp[hk]))
      rw[e1]at this
      exact this
     | j+1=>simp at hx hq;exact h2 j x q hx hq
    ·simp at he
   ·simp at he
  match ts with
  | []=>exact main 0 [] he
  | t::ts'=>exact main t ts' he
theorem DD {F:Nat→Prop}{σs:AN}{σh:AE}{g:AL}{a:Act}{w:World}(R:AR C F σs σh g a w)
  (l:List Operand) (ts:List TypeId) (xs:List V1) (hs:∀t,Operand.tmp t∈l→σs t=s t) (h:M9 (BM ti s l ts) xs):
   xs.length=l.length∧∀(j:Nat) x p,xs[j]?=some x→l[j]?=some p→Ag w (Al (zone g σh) C.X) g σh x (a.eval p):=by
 rcases h with h | h
 ·exact Ea R l ts xs hs h
 ·exact Jy R l ts xs hs h
theorem nP (c:Call) (f:Operand) (ho:o.op= .call c) (hc:c.callee= .value f)
  (hk:gR C.M (AP ti s 0 f) (BM ti s c.args.toList c.argTypes.toList) k):∃out,k out∧A0 C o fresh s h out:=by
 unfold gR at hk
 split at hk
 ·rename_i n cap hop
  split at hk
  ·split at hk
   ·rename_i xs hxs
    split at hk
    ·rename_i x y cc
     obtain⟨hl,z,u,rfl,rfl,hk⟩:=hk
     obtain⟨⟨fn,f1,f2,f3,f4,f5⟩,b1,b2,b3,b4⟩:=(C.M.lock_iff _).1 hl
     refine⟨_,hk,AG fun F σs σh g a w R hs _=>?_⟩
     have hf:=AI ti 0 f R (s:=s) (fun k hk=>hs k (by subst hk;simp[ho,hc,Op.operands,Call.operands]))
     rw[hop]at hf
     obtain⟨hfv,_⟩:=hf
     obtain⟨h1,h2⟩:=Ea (ti:=ti) R c.args.toList c.argTypes.toList _ (fun t ht=>hs t (by simp[ho,hc,Op.operands,Call.operands];right;simpa using ht)) hxs
     have hsz:c.args.size=3:=by simpa using h1.symm
     obtain⟨p0,p1,p2,hargs⟩:∃p0 p1 p2,c.args=#[p0,p1,p2]:=by
      refine⟨c.args[0],c.args[1],c.args[2],?_⟩
      apply Array.ext
      ·simpa using hsz
      ·intro i h3 h4
       match i,h4 with
       | 0,_=>rfl
       | 1,_=>rfl
       | 2,_=>rfl
     rw[hargs]at h2
     have q0:a.eval p0= .int .u64 x:=by have:AX w _ _ _:=h2 0 _ p0 rfl rfl;exact ET (g:=g) (h:=σh) this
     have q1:a.eval p1= .int .u64 y:=by have:AX w _ _ _:=h2 1 _ p1 rfl rfl;exact ET (g:=g) (h:=σh) this
     have q2:a.eval p2= .int .u64 cc:=by have:AX w _ _ _:=h2 2 _ p2 rfl rfl;exact ET (g:=g) (h:=σh) this
     refine⟨.tuple #[.int .u64 ((x+y+cc) % 18446744073709551616),.int .u64 ((x+y+cc) / 18446744073709551616)],?_,#[.int .u64 _,.int .u64 _],rfl,rfl,fun q c u hc hu=>?_⟩
     ·have hx:=run_callFunc_extern (P:=C.P) f1 f2 f3 f4 f5 #[.int .u64 x,.int .u64 y,.int .u64 cc] w
      rw[run_add64 x y cc b1 b2 b3 b4 w]at hx
      simp[execOp,ho,resolve,hc,hfv,Deferred.ofValue,invoke,hargs,q0,q1,q2,hx,Result.andThen]
     ·match q with
      | 0=>simp at hc hu;subst hc;subst hu;exact .int _ _
      | 1=>simp at hc hu;subst hc;subst hu;exact .int _ _
      | q+2=>simp at hc
    ·exact hk.elim
   ·exact hk.elim
  ·exact hk.elim
 ·exact hk.elim
theorem cJ (c:Call) (f:Operand) (ho:o.op= .call c) (hc:c.callee= .value f)
  (hk:GQ C.M (AP ti s 0 f) (BM ti s c.args.toList c.argTypes.toList) fresh h k):∃out,k out∧A0 C o fresh s h out:=by
 unfold GQ at hk
 split at hk
 ·rename_i n cap hop
  rcases F9 hk with⟨xs,hxs,hk⟩ | hk
  ·obtain⟨m,targs,pre,res,post,new,htrip,hargs,hlen,hnd,hpre,hkinds,hnew,hk⟩:=(C.M.lock_iff _).1 hk
   refine⟨_,hk,?_⟩
   rintro F σs σh a w Q ⟨g,R⟩ hs hrd hF hd
   have hf:=AI ti 0 f R (s:=s) (fun k hk=>hs k (by subst hk;simp[ho,hc,Op.operands,Call.operands]))
   rw[hop]at hf
   obtain⟨hfv,hcap⟩:=hf
   obtain⟨h1,h2⟩:=DD (ti:=ti) R c.args.toList c.argTypes.toList xs (fun t ht=>hs t (by simp[ho,hc,Op.operands,Call.operands];right;simpa using ht)) hxs
   obtain⟨fn,body,hfn,hb,hname⟩:=htrip.1
   have hrun:(execOp a.eval o).run C.P w= .ok (.enter n (c.args.map a.eval++(cap.map (fun i=>Bu (g i) 0)).toArray)) w:=by
    have hn':¬fn.name= "runtime.NumGoroutine" :=by simpa using hname
    simp[execOp,ho,resolve,hc,hfv,Deferred.ofValue,invoke,callFunc,hfn,hb,hn']
   have hpre':∀(j:Nat) i o,m[j]?=some i→pre[j]?=some o→σh i=some (o.Ar (Av m fresh)):=fun j i o' hm hp=>
    (hrd i (List.mem_of_getElem? hm)).trans (hpre j i o' hm hp)
   unfold Oper.wp
   rw[hrun,Oper.upon_enter]
   refine Calls.mono (DC (Qp:=fun r p n=>r=res∧p=post∧n=new) (Run:=fun p=>Calls C.P n (c.args.map a.eval++(cap.map (fun i=>Bu (g i) 0)).toArray) w p) (vals:=c.args.map a.eval++(cap.map (fun i=>Bu (g i) 0)).toArray) (dst:=o.dst) (Q:=Q) R (fun hpq hp=>hp.mono hpq) (fun X g1 _ k1 k2 k3 k4 k6=>htrip.2 w X g1 _ k1 k2 k3 k4 ?_ k6) hlen hnd hpre' ?_ hF hd (targs:=targs) ?_) ?_
   ·have:=congrArg List.length hargs
    simp[h1]at this
    simp
    omega
   ·rintro _ _ _ ⟨rfl,rfl,rfl⟩;exact⟨hkinds,hnew⟩
   rotate_left
   ·intro e w' he
    cases e with
    | returned v=>obtain⟨_,_,_,⟨rfl,rfl,rfl⟩,g2,_,he⟩:=he;exact⟨g2,he⟩
    | panicked ch=>exact he
    | outgrown=>exact he
   ·intro j x v hx hv
    rw[←hargs]at hx
    simp only[Array.getElem?_append,Array.size_map,List.getElem?_toArray]at hv
    by_cases hj:j<c.args.size
    ·rw[if_pos hj]at hv
     rw[List.getElem?_append_left (by rw[h1];simpa using hj)]at hx
     simp only[Array.getElem?_map,Option.map_eq_some_iff]at hv
     obtain⟨p,hp,rfl⟩:=hv
     exact h2 j x p hx (by simpa using hp)
    ·rw[if_neg hj]at hv
     rw[List.getElem?_append_right (by rw[h1];simpa using hj),h1]at hx
     simp only[List.getElem?_map,Option.map_eq_some_iff,Array.length_toList]at hx hv
     obtain⟨i,hi,rfl⟩:=hx
     obtain⟨i',hi',rfl⟩:=hv
     rw[hi]at hi'
     obtain rfl:i=i':=by simpa using hi'
     obtain⟨b,hb'⟩:=hcap i (List.mem_of_getElem? hi)
     exact⟨⟨b,hb'⟩,rfl⟩
  ·exact hk.elim
 ·rename_i n i0 hop
  rcases F9 hk with⟨xs,hxs,hk⟩ | hk
  ·obtain⟨m,targs,pre,res,post,new,htrip,hargs,hlen,hnd,hpre,hkinds,hnew,hk⟩:=(C.M.lock_iff _).1 hk
   refine⟨_,hk,?_⟩
   rintro F σs σh a w Q ⟨g,R⟩ hs hrd hF hd
   have hf:=AI ti 0 f R (s:=s) (fun k hk=>hs k (by subst hk;simp[ho,hc,Op.operands,Call.operands]))
   rw[hop]at hf
   obtain⟨⟨b0,hb0⟩,hfv⟩:=hf
   obtain⟨h1,h2⟩:=DD (ti:=ti) R c.args.toList c.argTypes.toList xs (fun t ht=>hs t (by simp[ho,hc,Op.operands,Call.operands];right;simpa using ht)) hxs
   obtain⟨fn,body,hfn,hb,hname⟩:=htrip.1
   have hrun:(execOp a.eval o).run C.P w= .ok (.enter n (#[Bu (g i0) 0]++c.args.map a.eval)) w:=by
    have hn':¬fn.name= "runtime.NumGoroutine" :=by simpa using hname
    simp[execOp,ho,resolve,hc,hfv,Deferred.ofValue,invoke,callFunc,hfn,hb,hn']
   have hpre':∀(j:Nat) i o,m[j]?=some i→pre[j]?=some o→σh i=some (o.Ar (Av m fresh)):=fun j i o' hm hp=>
    (hrd i (List.mem_of_getElem? hm)).trans (hpre j i o' hm hp)
   unfold Oper.wp
   rw[hrun,Oper.upon_enter]
   refine Calls.mono (DC (Qp:=fun r p n=>r=res∧p=post∧n=new) (Run:=fun p=>Calls C.P n (#[Bu (g i0) 0]++c.args.map a.eval) w p) (vals:=#[Bu (g i0) 0]++c.args.map a.eval) (dst:=o.dst) (Q:=Q) R (fun hpq hp=>hp.mono hpq) (fun X g1 _ k1 k2 k3 k4 k6=>htrip.2 w X g1 _ k1 k2 k3 k4 ?_ k6) hlen hnd hpre' ?_ hF hd (targs:=targs) ?_) ?_
   ·have:=congrArg List.length hargs
    simp[h1]at this
    simp
    omega
   ·rintro _ _ _ ⟨rfl,rfl,rfl⟩;exact⟨hkinds,hnew⟩
   rotate_left
   ·intro e w' he
    cases e with
    | returned v=>obtain⟨_,_,_,⟨rfl,rfl,rfl⟩,g2,_,he⟩:=he;exact⟨g2,he⟩
    | panicked ch=>exact he
    | outgrown=>exact he
   ·intro j x v hx hv
    rw[←hargs]at hx
    cases j with
    | zero=>
     rw[Array.getElem?_append_left (by simp)]at hv
     simp at hx hv
     subst hx
     subst hv
     exact⟨⟨b0,hb0⟩,rfl⟩
    | succ j=>
     simp only[List.getElem?_cons_succ]at hx
     simp only[Array.getElem?_append,Array.size_map]at hv
     rw[if_neg (by simp)]at hv
     simp only[Array.getElem?_map,Option.map_eq_some_iff]at hv
     obtain⟨p,hp,rfl⟩:=hv
     exact h2 j x p hx (by simpa using hp)
  ·exact hk.elim
 ·rename_i n cs hop
  rcases F9 hk with⟨xs,hxs,hk⟩ | hk
  ·obtain⟨m,targs,pre,res,post,new,htrip,hargs,hlen,hnd,hpre,hkinds,hnew,hk⟩:=(C.M.lock_iff _).1 hk
   refine⟨_,hk,?_⟩
   rintro F σs σh a w Q ⟨g,R⟩ hs hrd hF hd
   have hf:=AI ti 0 f R (s:=s) (fun k hk=>hs k (by subst hk;simp[ho,hc,Op.operands,Call.operands]))
   rw[hop]at hf
   obtain⟨ps0,hfv,hpl,hbx⟩:=hf
   obtain⟨ps,rfl⟩:∃ps:Array Value,ps.toList=ps0:=⟨ps0.toArray,rfl⟩
   rw[Array.toArray_toList]at hfv
   obtain⟨hpsz,hcap⟩:=NA (h:=σh) (⟨ps.toList,by simp,hpl,hbx⟩:FB w (Al (zone g σh) C.X) g n cs (.func (.func n) #[] ps))
   obtain⟨h1,h2⟩:=DD (ti:=ti) R c.args.toList c.argTypes.toList xs (fun t ht=>hs t (by simp[ho,hc,Op.operands,Call.operands];right;simpa using ht)) hxs
   obtain⟨fn,body,hfn,hb,hname⟩:=htrip.1
   have hrun:(execOp a.eval o).run C.P w= .ok (.enter n (c.args.map a.eval++ps)) w:=by
    have hn':¬fn.name= "runtime.NumGoroutine" :=by simpa using hname
    simp[execOp,ho,resolve,hc,hfv,Deferred.ofValue,invoke,callFunc,hfn,hb,hn']
   have hpre':∀(j:Nat) i o,m[j]?=some i→pre[j]?=some o→σh i=some (o.Ar (Av m fresh)):=fun j i o' hm hp=>
    (hrd i (List.mem_of_getElem? hm)).trans (hpre j i o' hm hp)
   unfold Oper.wp
   rw[hrun,Oper.upon_enter]
   refine Calls.mono (DC (Qp:=fun r p n=>r=res∧p=post∧n=new) (Run:=fun p=>Calls C.P n (c.args.map a.eval++ps) w p) (vals:=c.args.map a.eval++ps) (dst:=o.dst) (Q:=Q) R (fun hpq hp=>hp.mono hpq) (fun X g1 _ k1 k2 k3 k4 k6=>htrip.2 w X g1 _ k1 k2 k3 k4 ?_ k6) hlen hnd hpre' ?_ hF hd (targs:=targs) ?_) ?_
   ·have:=congrArg List.length hargs
    simp[h1]at this
    simp
    omega
   ·rintro _ _ _ ⟨rfl,rfl,rfl⟩;exact⟨hkinds,hnew⟩
   rotate_left
   ·intro e w' he
    cases e with
    | returned v=>obtain⟨_,_,_,⟨rfl,rfl,rfl⟩,g2,_,he⟩:=he;exact⟨g2,he⟩
    | panicked ch=>exact he
    | outgrown=>exact he
   ·intro j x v hx hv
    rw[←hargs]at hx
    simp only[Array.getElem?_append,Array.size_map]at hv
    by_cases hj:j<c.args.size
    ·rw[if_pos hj]at hv
     rw[List.getElem?_append_left (by rw[h1];simpa using hj)]at hx
     simp only[Array.getElem?_map,Option.map_eq_some_iff]at hv
     obtain⟨p,hp,rfl⟩:=hv
     exact h2 j x p hx (by simpa using hp)
    ·rw[if_neg hj]at hv
     rw[List.getElem?_append_right (by rw[h1];simpa using hj),h1]at hx
     exact hcap _ x v (by simpa using hx) hv
  ·exact hk.elim
 ·exact hk.elim
theorem BE (hti:Ao C.P ti) (h1:BB ti) (hst:∀t x y,o.op= .store t x y→o.dst=none) (hk:Ab C.M ti o fresh s h k):∃out,k out∧A0 C o fresh s h out:=by
 unfold Ab at hk
 split at hk
 ·rename_i x ho;exact⟨_,hk,Vq x (.inl ho)⟩
 ·rename_i x ho;exact⟨_,hk,Vq x (.inr ho)⟩
 ·rename_i c x y ho
  obtain⟨q,hq,hk⟩:=PR.1 hk
  exact⟨_,hk,bQ c x y ho hq⟩
 ·rename_i t ho
  obtain⟨i,hi,hk⟩:=AF.1 hk
  exact⟨_,hk,YA hti t ho hi⟩
 ·rename_i t x ho
  obtain⟨y,hy,hk⟩:=CS.1 hk
  exact⟨_,hk,gJ t x ho hy⟩
 ·rename_i t x ho;exact bR hti h1 t x ho hk
 ·rename_i t x y ho;exact YC hti t x y ho (hst t x y ho) hk
 ·rename_i t x f ho;exact YD hti t x f ho hk
 ·rename_i t x y ho;exact YE hti t x y ho hk
 ·rename_i x ho
  split at hk
  ·rename_i i q hop;exact⟨_,hk,Sg x ho hop⟩
  ·exact hk.elim
 ·rename_i op t x y t' ho;exact gL hti op t t' x y ho hk
 ·rename_i op t x ho;exact kM op t x ho hk
 ·rename_i fn first captured ho
  split at hk
  ·rename_i f hfi
   split at hk
   ·rename_i l hl;exact⟨_,hk,Sh _ first captured ho rfl hfi hl⟩
   ·exact hk.elim
  ·rename_i f x hfi
   split at hk
   ·rename_i i hcap hx;exact⟨_,hk,Wd _ first captured ho rfl hfi hcap hx⟩
   ·exact hk.elim
  ·exact hk.elim
 ·rename_i t parts ho;exact YH hti t parts ho hk
 ·rename_i t len parts ho
  obtain⟨c,hk⟩:=hk
  cases c with
  | true=>exact O5 hti t len parts ho hk
  | false=>exact NP hti t len parts ho hk
 ·rename_i t x i ok ho;exact Wq hti t x i ok ho hk
 ·rename_i t x lo hi mx ho;exact Wk hti t x lo hi mx ho hk
 ·rename_i t x i ho;exact Wl hti h1 t x i ho hk
 ·rename_i t x f ho;exact Wj hti h1 t x f ho hk
 ·rename_i x i ho;exact Ub x i ho hk
 ·rename_i a b x ho;exact Uc hti a b x ho hk
 ·rename_i t x ho;exact YI hti t x ho hk
 ·rename_i x xt t ok ho;exact Wn hti x xt t ok ho hk
 ·rename_i c ho
  split at hk
  ·rename_i hc
   split at hk
   ·rename_i x t hx ht
    refine gK hti t x ?_ hk
    obtain⟨callee,args,argTypes⟩:=c
    have e1:args=#[x]:=by apply Array.ext';simpa using hx
    have e2:argTypes=#[t]:=by apply Array.ext';simpa using ht
    subst e1;subst e2
    simp only[]at hc
    subst hc
    exact ho
   ·exact hk.elim
  ·rename_i hc
   split at hk
   ·rename_i x y t t' hx ht
    replace hk:=AA.1 hk
    obtain⟨htt,hk⟩:=hk
    have htt:=Nat.eq_of_beq_eq_true htt
    subst htt
    refine Wo hti t x y ?_ hk
    obtain⟨callee,args,argTypes⟩:=c
    have e1:args=#[x,y]:=by apply Array.ext';simpa using hx
    have e2:argTypes=#[t,t]:=by apply Array.ext';simpa using ht
    subst e1;subst e2
    simp only[]at hc
    subst hc
    exact ho
   ·exact hk.elim
  ·rename_i f hc;exact cJ c f ho hc hk
  ·exact hk.elim
 ·exact hk.elim
def Ng (h:AE) (ids rd:List Id):List (Id×AB)→(List (Id×AB)→Prop)→Prop
 | [],K=>K []
 | x::r,K=>match Jk x.1 ids with
  | true=>(match Jk x.1 rd with
   | true=>h x.1=some x.2∧Ng h ids rd r K
   | false=>False)
  | false=>Ng h ids rd r fun wr=>K (x::wr)
theorem Nh {ids rd:List Id}:∀{wr:List (Id×AB)}{K:List (Id×AB)→Prop},Ng h ids rd wr K→∃wr',K wr'∧∀σh:AE,(∀i∈rd,Jk i ids=true→σh i=h i)→Aq σh wr'=Aq σh wr
 | [],K,hk=>⟨[],hk,fun _ _=>rfl⟩
 | x::r,K,hk=>by
  simp only[Ng]at hk
  split at hk
  ·rename_i hi
   split at hk
   ·rename_i hr
    obtain⟨hx,hk⟩:=hk
    obtain⟨wr',h1,h2⟩:=Nh hk
    refine⟨wr',h1,fun σh hσ=>?_⟩
    have e:AJ σh x.1 x.2=σh:=by
     funext y
     simp only[AJ]
     split
     ·rename_i hy
      rw[hy,hσ x.1 (HT.1 hr) hi,hx]
     ·rfl
    show Aq σh wr'=Aq (AJ σh x.1 x.2) r
    rw[e]
    exact h2 σh hσ
   ·exact hk.elim
  ·rename_i hi
   obtain⟨wr',h1,h2⟩:=Nh hk
   refine⟨x::wr',h1,fun σh hσ=>?_⟩
   show Aq (AJ σh x.1 x.2) wr'=Aq (AJ σh x.1 x.2) r
   refine h2 _ fun i hr hi'=>?_
   have hne:i≠x.1:=by rintro rfl;rw[hi]at hi';cases hi'
   rw[show AJ σh x.1 x.2 i=σh i by simp[AJ,hne]]
   exact hσ i hr hi'
theorem W2 {out:Out}{wr':List (Id×AB)}{ids:List Id}(hok:A0 C o fresh s h out) (hsame:∀σh:AE,(∀i∈out.rd,Jk i ids=true→σh i=h i)→Aq σh wr'=Aq σh out.wr):A0 C o fresh s h ⟨out.val,out.rd,wr'⟩:=by
 intro F σs σh a w Q R hs hrd hF hd
 have:=hok F σs σh a w Q R hs hrd hF hd
 rw[←hsame σh (fun i hi _=>hrd i hi)]at this
 exact this
def cK (M:AY) (ti:Types) (o:Oper) (fresh:Nat) (s:AN) (h:AE) (k:Out→Prop):Prop:=
 ∃ids:List Id,Ab M ti o fresh s h fun out=>Ng h ids out.rd out.wr fun wr=>k ⟨out.val,out.rd,wr⟩
def CI (M:AY) (ti:Types) (o:Oper) (fresh:Nat) (s:AN) (h:AE) (k:Out→Prop):Prop:=
 match o.op with
 | .load t x=>(match Jf (AP ti s 0 x)with
  | true=>(match K5 (AP ti s 0 x) h with
   | true=>Ju ti t (AP ti s 0 x) h k
   | false=>(match L6 (AP ti s 0 x) h with
    | true=>Nc ti t (AP ti s 0 x) h k
    | false=>Sf ti t (AP ti s 0 x) fresh h k))
  | false=>(match L5 (AP ti s 0 x) h with
   | true=>Na ti t (AP ti s 0 x) h k
   | false=>Ab M ti o fresh s h k))
 | .store t x y=>(match Jf (AP ti s 0 x)with
  | true=>(match K5 (AP ti s 0 x) h with
   | true=>IU ti t (AP ti s 0 x) (AP ti s t y) h k
   | false=>PW ti t (AP ti s 0 x) (AP ti s t y) fresh h k)
  | false=>(match L5 (AP ti s 0 x) h with
   | true=>K8 M ti t (AP ti s 0 x) (AP ti s t y) h k
   | false=>Ab M ti o fresh s h k))
 | .fieldAddr t x f=>(match Jf (AP ti s 0 x)with
  | true=>(match K5 (AP ti s 0 x) h with
   | true=>Gb ti t (AP ti s 0 x) f h k
   | false=>GY ti t (AP ti s 0 x) f h k)
  | false=>Ab M ti o fresh s h k)
 | .indexAddr t x i=>(match Jf (AP ti s t x)with
  | true=>(match K5 (AP ti s t x) h with
   | true=>Gc M ti t (AP ti s t x) (AP ti s 3 i) h k
   | false=>(match L6 (AP ti s t x) h with
    | true=>LA M ti t (AP ti s t x) (AP ti s 3 i) h k
    | false=>GZ M ti t (AP ti s t x) (AP ti s 3 i) h k))
  | false=>Ab M ti o fresh s h k)
 | .nilCheck x=>(match Jf (AP ti s 0 x)with
  | true=>(match K5 (AP ti s 0 x) h with
   | true=>Jv (AP ti s 0 x) h k
   | false=>Jm (AP ti s 0 x) h k)
  | false=>Ab M ti o fresh s h k)
 | .buildSlice t len parts=>(match Ya ti s parts.toList with
  | true=>Hd ti s t len parts.toList fresh k
  | false=>∃c:Bool,(match c with
   | true=>HW ti s t len parts.toList fresh h k
   | false=>Ab M ti o fresh s h k))
 | .slice t x lo hi mx=>(match Jf (AP ti s t x)with
  | true=>K9 ti s t (AP ti s t x) lo hi mx fresh h k
  | false=>Ab M ti o fresh s h k)
 | .call c=>(match c.callee with
  | .builtin .len=>(match c.args.toList,c.argTypes.toList with
   | [x],[t]=>(match Jf (AP ti s t x)with
    | true=>(match K5 (AP ti s t x) h with
     | true=>Jw M ti t (AP ti s t x) h k
     | false=>(match L6 (AP ti s t x) h with
      | true=>Qs M ti t (AP ti s t x) h k
      | false=>∃b:Bool,(match b with
       | true=>Js M ti t (AP ti s t x) h k
       | false=>Jl M ti t (AP ti s t x) h k)))
    | false=>Ab M ti o fresh s h k)
   | _,_=>False)
  | .builtin .append=>(match c.args.toList,c.argTypes.toList with
   | [x,y],[t,t']=>(match L6 (AP ti s t' y) h with
   | true=>Ay (Nat.beq t t') (JJ M ti t (AP ti s t x) (AP ti s t y) fresh h k)
   | false=>∃b:Bool,(match b with
    | true=>Ay (Nat.beq t t') (∃c:Bool,(match c with
     | true=>NR M ti t (AP ti s t x) (AP ti s t y) fresh h k
     | false=>Hb M ti t (AP ti s t x) (AP ti s t y) fresh h k))
    | false=>(match Yd (AP ti s t' y)with
     | true=>Gy M ti t t' (AP ti s t x) (AP ti s t' y) fresh h k
     | false=>Ab M ti o fresh s h k)))
   | _,_=>False)
  | .value f=>gR M (AP ti s 0 f) (BM ti s c.args.toList c.argTypes.toList) k∨(JA h (fun h'=>Ab M ti o fresh s h') k∨cK M ti o fresh s h k)
  | .builtin .min=>(match c.args.toList,c.argTypes.toList with
   | [x,y],[t,t']=>Ga true (AP ti s t x) (AP ti s t' y) k
   | _,_=>False)
  | .builtin .delete=>(match c.args.toList,c.argTypes.toList with
   | [x,y],[t,t']=>JI M ti t (AP ti s t x) (AP ti s t' y) h k
   | _,_=>False)
  | .builtin .max=>(match c.args.toList,c.argTypes.toList with
   | [x,y],[t,t']=>Ga false (AP ti s t x) (AP ti s t' y) k
   | _,_=>False)
  | _=>False)
 | .makeSlice t x y=>Dn M ti t (AP ti s 3 x) (AP ti s 3 y) fresh k
 | .lookup t x y ok=>(match Jf (AP ti s t x)with
  | true=>(match Wx (AP ti s t x) h with
   | true=>JG M ti t (AP ti s t x) (AP ti s 0 y) ok h fresh k
   | false=>FJ M ti t (AP ti s t x) (AP ti s 0 y) ok h k)
  | false=>(match kO (AP ti s t x)with
   | true=>(match ok with
    | true=>False
    | false=>JE M ti t (AP ti s t x) (AP ti s 0 y) h k)
   | false=>Ab M ti o fresh s h k))
 | .mapUpdate t x y z=>(match Wx (AP ti s t x) h with
  | true=>JH M ti t (AP ti s t x) (AP ti s 0 y) (AP ti s 0 z) h k
  | false=>D7 M ti t (AP ti s t x) (AP ti s 0 y) (AP ti s 0 z) h k)
 | .insert t x y z=>D7 M ti t (AP ti s t x) (AP ti s 0 y) (AP ti s 0 z) h k
 | .makeMap t r=>(match r with
  | none=>(match YX ti t with
   | true=>Fv ti t fresh k
   | false=>(match Pg ti t with
    | true=>Fu ti t fresh k
    | false=>Ft ti t fresh k))
  | some _=>False)
 | .binOp op t x y _=>(match Qi (AP ti s t x)with
  | true=>NU M ti op t (AP ti s t x) (AP ti s t y) k
  | false=>(match Jf (AP ti s t x)with
   | true=>(match Wx (AP ti s t x) h with
    | true=>Qr ti op t (AP ti s t x) (AP ti s t y) h k
    | false=>Jr ti op t (AP ti s t x) (AP ti s t y) h k)
   | false=>Ab M ti o fresh s h k))
 | .convert a b x=>(match Uf (AP ti s a x)with
  | true=>Ab M ti o fresh s h k
  | false=>HX M ti a b (AP ti s a x) k)
 | _=>Ab M ti o fresh s h k
theorem Fx (hti:Ao C.P ti) (h1:BB ti) (hst:∀t x y,o.op= .store t x y→o.dst=none) (hst2:∀t x y z,(o.op= .mapUpdate t x y z∨o.op= .insert t x y z)→o.dst=none) (hk:CI C.M ti o fresh s h k):∃out,k out∧A0 C o fresh s h out:=by
 unfold CI at hk
 split at hk
 ·rename_i t x ho
  split at hk
  ·split at hk
   ·exact YV hti h1 t x ho hk
   ·split at hk
    ·exact Yb hti h1 t x ho hk
    ·exact YG hti h1 t x ho hk
  ·split at hk
   ·exact YY hti h1 t x ho hk
   ·exact BE hti h1 hst hk
 ·rename_i t x y ho
  split at hk
  ·split at hk
   ·exact Wu hti t x y ho (hst t x y ho) hk
   ·exact Wf hti t x y ho (hst t x y ho) hk
  ·split at hk
   ·exact Wy hti t x y ho (hst t x y ho) hk
   ·exact BE hti h1 hst hk
 ·rename_i t x f ho
  split at hk
  ·split at hk
   ·exact Wv hti t x f ho hk
   ·exact Wg hti t x f ho hk
  ·exact BE hti h1 hst hk
 ·rename_i t x y ho
  split at hk
  ·split at hk
   ·exact Ww hti t x y ho hk
   ·split at hk
    ·exact W0 hti t x y ho hk
    ·exact Wh hti t x y ho hk
  ·exact BE hti h1 hst hk
 ·rename_i x ho
  split at hk
  ·split at hk
   ·exact Qq x ho hk
   ·exact Qf x ho hk
  ·exact BE hti h1 hst hk
 ·rename_i t len parts ho
  split at hk
  ·exact Nd hti t len parts ho hk
  obtain⟨c,hk⟩:=hk
  cases c with
  | true=>exact NS hti h1 t len parts ho hk
  | false=>exact BE hti h1 hst hk
 ·rename_i t x lo hi mx ho
  split at hk
  ·exact Wz hti t x lo hi mx ho hk
  ·exact BE hti h1 hst hk
 ·rename_i c ho
  split at hk
  ·rename_i hc
   split at hk
   ·rename_i x t hx ht
    split at hk
    ·have ho':o.op= .call {callee:=.builtin .len,args:=#[x],argTypes:=#[t]}:=by
      obtain⟨callee,args,argTypes⟩:=c
      have e1:args=#[x]:=by apply Array.ext';simpa using hx
      have e2:argTypes=#[t]:=by apply Array.ext';simpa using ht
      subst e1;subst e2
      simp only[]at hc
      subst hc
      exact ho
     split at hk
     ·exact cC hti t x ho' hk
     split at hk
     ·exact cG hti t x ho' hk
     obtain⟨b,hk⟩:=hk
     cases b with
     | true=>exact bZ hti t x ho' hk
     | false=>exact bS hti t x ho' hk
    ·exact BE hti h1 hst hk
   ·exact hk.elim
  ·rename_i hc
   split at hk
   ·rename_i x y t t' hx ht
    split at hk
    ·replace hk:=AA.1 hk
     obtain⟨htt,hk⟩:=hk
     have htt:=Nat.eq_of_beq_eq_true htt
     subst htt
     have ho':o.op= .call {callee:=.builtin .append,args:=#[x,y],argTypes:=#[t,t]}:=by
      obtain⟨callee,args,argTypes⟩:=c
      have e1:args=#[x,y]:=by apply Array.ext';simpa using hx
      have e2:argTypes=#[t,t]:=by apply Array.ext';simpa using ht
      subst e1;subst e2
      simp only[]at hc
      subst hc
      exact ho
     exact Um hti t x y ho' hk
    obtain⟨b,hk⟩:=hk
    cases b with
    | true=>
     replace hk:=AA.1 hk
     obtain⟨htt,hk⟩:=hk
     have htt:=Nat.eq_of_beq_eq_true htt
     subst htt
     have ho':o.op= .call {callee:=.builtin .append,args:=#[x,y],argTypes:=#[t,t]}:=by
      obtain⟨callee,args,argTypes⟩:=c
      have e1:args=#[x,y]:=by apply Array.ext';simpa using hx
      have e2:argTypes=#[t,t]:=by apply Array.ext';simpa using ht
      subst e1;subst e2
      simp only[]at hc
      subst hc
      exact ho
     obtain⟨c',hk⟩:=hk
     cases c' with
     | true=>exact Ud hti h1 t x y ho' hk
     | false=>exact S4 hti h1 t x y ho' hk
    | false=>
     have ho':o.op= .call {callee:=.builtin .append,args:=#[x,y],argTypes:=#[t,t']}:=by
      obtain⟨callee,args,argTypes⟩:=c
      have e1:args=#[x,y]:=by apply Array.ext';simpa using hx
      have e2:argTypes=#[t,t']:=by apply Array.ext';simpa using ht
      subst e1;subst e2
      simp only[]at hc
      subst hc
      exact ho
     have hz:=hk
     dsimp only at hz
     split at hz
     ·exact Qu hti t t' x y ho' hz
     ·exact BE hti h1 hst hz
   ·exact hk.elim
  ·rename_i f hc
   rcases hk with hk | ⟨gs,hk⟩ | ⟨ids,hk⟩
   ·exact nP c f ho hc hk
   ·exact EW hk (fun h' k' hk'=>BE hti h1 hst hk')
   ·obtain⟨out,hk,hok⟩:=BE hti h1 hst hk
    obtain⟨wr',hk,hsame⟩:=Nh hk
    exact⟨_,hk,W2 hok hsame⟩
  ·rename_i hc
   split at hk
   ·rename_i x y t t' hx ht
    refine Ph true t t' x y ?_ hk
    obtain⟨callee,args,argTypes⟩:=c
    have e1:args=#[x,y]:=by apply Array.ext';simpa using hx
    have e2:argTypes=#[t,t']:=by apply Array.ext';simpa using ht
    subst e1;subst e2
    simp only[]at hc
    subst hc
    exact ho
   ·exact hk.elim
  ·rename_i hc
   split at hk
   ·rename_i x y t t' hx ht
    refine Ul hti t t' x y ?_ hk
    obtain⟨callee,args,argTypes⟩:=c
    have e1:args=#[x,y]:=by apply Array.ext';simpa using hx
    have e2:argTypes=#[t,t']:=by apply Array.ext';simpa using ht
    subst e1;subst e2
    simp only[]at hc
    subst hc
    exact ho
   ·exact hk.elim
  ·rename_i hc
   split at hk
   ·rename_i x y t t' hx ht
    refine Ph false t t' x y ?_ hk
    obtain⟨callee,args,argTypes⟩:=c
    have e1:args=#[x,y]:=by apply Array.ext';simpa using hx
    have e2:argTypes=#[t,t']:=by apply Array.ext';simpa using ht
    subst e1;subst e2
    simp only[]at hc
    subst hc
    exact ho
   ·exact hk.elim
  ·exact hk.elim
 ·rename_i t x y ho
  exact Qm hti h1 t x y ho hk
 ·rename_i t x y ok ho
  split at hk
  ·split at hk
   ·exact Uj hti t x y ok ho hk
   ·exact Ug hti t x y ok ho hk
  ·split at hk
   ·cases ok with
    | true=>exact hk.elim
    | false=>exact Uh hti t x y ho hk
   ·exact BE hti h1 hst hk
 ·rename_i t x y z ho
  split at hk
  ·exact Uk hti t x y z ho (hst2 t x y z (.inl ho)) hk
  ·exact NX hti t x y z (.inl ho) (hst2 t x y z (.inl ho)) hk
 ·rename_i t x y z ho
  exact NX hti t x y z (.inr ho) (hst2 t x y z (.inr ho)) hk
 ·rename_i t r ho
  split at hk
  ·split at hk
   ·exact S5 t ho hk
   ·split at hk
    ·exact S3 t ho hk
    ·exact S2 hti t ho hk
  ·exact hk.elim
 ·rename_i op t x y t' ho
  split at hk
  ·exact gQ hti op t t' x y ho hk
  ·split at hk
   ·split at hk
    ·exact cE hti op t t' x y ho hk
    ·exact cA hti op t t' x y ho hk
   ·exact BE hti h1 hst hk
 ·rename_i a b x ho
  split at hk
  ·exact BE hti h1 hst hk
  ·exact YM hti a b x ho hk
 ·exact BE hti h1 hst hk
end
end Go.AM
namespace Go.AM
open Go Go.RowKit
structure St where
 slots:List (Nat×AV)
 heap:List (Id×AB)
 next:Nat
def AK:List (Id×AB)→AE
 | [],_=>none
 | (k,v)::r,i=>match Id.beq k i with
  | true=>some v
  | false=>AK r i
def CR:List (Id×AB)→Id→AB→List (Id×AB)
 | [],i,o=>[(i,o)]
 | (k,v)::r,i,o=>match Id.beq k i with
  | true=>(i,o)::r
  | false=>(k,v)::CR r i o
def Be (l:List (Id×AB)):List (Id×AB)→List (Id×AB)
 | []=>l
 | (i,o)::r=>Be (CR l i o) r
def BR (l:List (Nat×AV)) (d:Option Tmp) (v:AV):List (Nat×AV):=
 match d with
 | some d=>(d,v)::l
 | none=>l
theorem Ai (k:Nat) (v:AV) (l:List (Nat×AV)):AH ((k,v)::l)=fun t=>if t=k then v else AH l t:=by
 funext t
 show (match Nat.beq k t with | true=>v | false=>AH l t)=_
 cases hb:Nat.beq k t with
 | true=>rw[if_pos (Nat.eq_of_beq_eq_true hb).symm]
 | false=>rw[if_neg (fun e=>Nat.ne_of_beq_eq_false hb e.symm)]
theorem CU (l:List (Nat×AV)) (d:Option Tmp) (v:AV):AH (BR l d v)=Bp (AH l) d v:=by
 cases d with
 | none=>rfl
 | some d=>exact Ai d v l
theorem Cp (k:Id) (v:AB) (l:List (Id×AB)):AK ((k,v)::l)=AJ (AK l) k v:=by
 funext i
 show (match Id.beq k i with | true=>some v | false=>AK l i)=if i=k then some v else AK l i
 cases hb:Id.beq k i with
 | true=>rw[if_pos (Id.beq_iff.1 hb).symm]
 | false=>rw[if_neg (fun e=>Id.beq_false.1 hb e.symm)]
theorem Bh (l:List (Id×AB)) (i:Id) (o:AB):AK (CR l i o)=AJ (AK l) i o:=by
 induction l with
 | nil=>exact Cp i o []
 | cons x l ih=>
  obtain⟨k,v⟩:=x
  unfold CR
  cases hb:Id.beq k i with
  | true=>
   have:=Id.beq_iff.1 hb
   subst this
   simp only[Cp]
   funext j
   simp only[AJ]
   split<;>rfl
  | false=>
   have:=Id.beq_false.1 hb
   simp only[Cp,ih]
   funext j
   simp only[AJ]
   by_cases h1:j=k
   ·subst h1;simp[this]
   ·simp[h1]
theorem Bw (wr:List (Id×AB)):∀l:List (Id×AB),AK (Be l wr)=Aq (AK l) wr:=by
 induction wr with
 | nil=>intro l;rfl
 | cons x wr ih=>
  intro l
  show AK (Be (CR l x.1 x.2) wr)=Aq (AJ (AK l) x.1 x.2) wr
  rw[ih,Bh]
def D0 (nt:Nat) (d:Option Tmp) (K:Prop):Prop:=
 match d with
 | none=>K
 | some d=>Ay (Nat.blt d nt) K
def EN (o:Oper) (K:Prop):Prop:=
 match o.op with
 | .store ..=>match o.dst with
  | some _=>False
  | none=>K
 | .mapUpdate ..=>match o.dst with
  | some _=>False
  | none=>K
 | .insert ..=>match o.dst with
  | some _=>False
  | none=>K
 | .defer _=>False
 | _=>K
def Qv (h:AE):AV→Option (List D)
 | .v (.d (.list _ _ rows))=>some rows
 | .v (.c (.lst _ _ _ rows))=>some rows
 | .v (.c (.tl _ _ rows))=>some rows
 | .v (.c (.ow i))=>match h i with
  | some (.tree kd _ _ rows _)=>match kd with
   | .row=>some rows
   | .flat=>some rows
   | _=>none
  | _=>none
 | _=>none
def He:AV→Bool
 | .v (.c (.nils _ _))=>true
 | _=>false
def nQ:BinOp→Option Bool
 | .eql=>some true
 | .neq=>some false
 | _=>none
def DW (ti:Types) (o:Oper) (s:AN) (h:AE):Option (Bool×List D):=
 match o.op with
 | .binOp op t x y _=>match nQ op with
  | some e=>match He (AP ti s t y)with
   | true=>(match Qv h (AP ti s t x)with
    | some rows=>some (e,rows)
    | none=>none)
   | false=>match He (AP ti s t x)with
    | true=>(match Qv h (AP ti s t y)with
     | some rows=>some (e,rows)
     | none=>none)
    | false=>none
  | none=>none
 | _=>none
def Jz (ti:Types) (o:Oper):Bool:=
 match o.op with
 | .binOp _ t _ _ _=>match ti t with
  | some i=>match i.desc with
   | .slice _=>true
   | _=>false
  | none=>false
 | _=>false
def BX (C:Cx) (σ:St) (a:Act) (w:World):Prop:=Rel C (fun n=>σ.next≤n) (AH σ.slots) (AK σ.heap) a w
def A8 (σ σ':St):Prop:=∀C a w,BX C σ a w→BX C σ' a w
def Bc (o:Oper):Bool:=
 match o.op with
 | .call c=>match c.callee with
  | .value _=>true
  | _=>false
 | .panic _=>true
 | _=>false
def Ni (h:AE) (r:Id→Id) (m:List Id) (pre:List AB):Prop:=∀(j:Nat) i o,m[j]?=some i→pre[j]?=some o→h i=some (o.Ar r)
def kS (r:Id→Id) (sl:List (Nat×AV)):List (Nat×AV):=sl.map fun x=>(x.1,x.2.Ar r)
def Qw (M:AY) (dst:Option Tmp) (fresh:Nat) (σ:St) (n:FuncId) (xs:List V1) (K:St→Prop):Prop:=
 ∃(m:List Id) (targs:List V1) (pre:List AB) (Q:AV→List AB→List AB→Prop),Bk M.P M.I n targs pre Q∧xs=targs.map (V1.Ar (Av m fresh))∧m.length=pre.length∧m.Nodup∧
  Ni (AK σ.heap) (Av m fresh) m pre∧∀res post new,Q res post new→(BI pre post∧new.length≤31)∧
   K ⟨BR σ.slots dst (res.Ar (Av m fresh)),Be σ.heap (Iv m (Av m fresh) post++B4 fresh (Av m fresh) 0 new),σ.next⟩
def Uo (M:AY) (dst:Option Tmp) (fresh:Nat) (σ:St) (i:Id) (r:Unit→RF) (sl:List (Nat×AV)) (xs:List V1) (K:St→Prop):Prop:=
 ∃(m:List Id) (targs:List V1) (pre:List AB) (sl0:List (Nat×AV)) (Q:Jump→List AB→List AB→Prop),Gv M.P M.I (r ()) sl0 targs pre Q∧xs=targs.map (V1.Ar (Av (m++[i]) fresh))∧
  sl=kS (Av (m++[i]) fresh) sl0∧m.length=pre.length∧(m++[i]).Nodup∧Ni (AK σ.heap) (Av (m++[i]) fresh) m pre∧∀j post new,Q j post new→(BI pre post∧new.length≤31)∧
   K ⟨BR σ.slots dst (.v (.d (.bool j.isNone))),Be σ.heap (Iv (m++[i]) (Av (m++[i]) fresh) (post++[D8 j r sl0])++B4 fresh (Av (m++[i]) fresh) 0 new),σ.next⟩
def Pk (M:AY) (ti:Types) (o:Oper) (fresh:Nat) (σ:St) (K:St→Prop):Prop:=
 match o.op with
 | .call c=>match c.callee with
  | .value f=>∃σ',A8 ⟨σ.slots,σ.heap,fresh⟩ σ'∧σ'.next=fresh∧(match AP ti (AH σ'.slots) 0 f with
   | .v (.c (.fn n cap))=>withArgs (BM ti (AH σ'.slots) c.args.toList c.argTypes.toList) fun xs=>Qw M o.dst fresh σ' n (xs++cap.map fun i=>V1.c (.ptr i 0)) K
   | .v (.c (.yl i))=>withArgs (BM ti (AH σ'.slots) c.args.toList c.argTypes.toList) fun xs=>(match AK σ'.heap i with
    | some (.rnd r sl)=>Uo M o.dst fresh σ' i r sl xs K
    | _=>False)
   | _=>False)
  | _=>False
 | _=>False
def eM:CV→Bool
 | .ow _=>true
 | .sl _ _=>true
 | _=>false
def PB {α:Type}(p:α→Bool):List α→Bool
 | []=>false
 | x::r=>match p x with
  | true=>true
  | false=>PB p r
def S6:AV→Bool
 | .v (.c c)=>eM c
 | .v (.agg cs)=>PB eM cs
 | _=>false
def eN:D→Bool
 | .list _ _ _=>true
 | _=>false
def eO:CV→Bool
 | .d x=>eN x
 | .lst _ _ _ _=>true
 | .tl _ _ _=>true
 | _=>false
def eP:AV→Bool
 | .v (.d x)=>PB eN x.cells
 | .v (.c c)=>eO c
 | .v (.agg cs)=>PB eO cs
 | _=>false
def L7:AV→Bool
 | .v (.c (.ow _))=>true
 | _=>false
def Ir (ti:Types) (o:Oper) (s:AN) (h:AE):Option Bool:=
 match o.op with
 | .slice t x _ _ _=>(match L7 (AP ti s t x)with
  | true=>some true
  | false=>none)
 | .convert t _ x=>(match L7 (AP ti s t x)with
  | true=>some true
  | false=>none)
 | .store t x y=>(match K5 (AP ti s 0 x) h with
  | true=>(match S6 (AP ti s t y)with
   | true=>some true
   | false=>none)
  | false=>(match Jf (AP ti s 0 x)with
   | true=>(match eP (AP ti s t y)with
    | true=>some false
    | false=>none)
   | false=>(match L5 (AP ti s 0 x) h with
    | true=>(match S6 (AP ti s t y)with
     | true=>some true
     | false=>none)
    | false=>none)))
 | .indexAddr t x _=>(match L7 (AP ti s t x)with
  | true=>some false
  | false=>none)
 | .mapUpdate _ _ _ z=>(match S6 (AP ti s 0 z)with
  | true=>some true
  | false=>none)
 | .call c=>(match c.callee with
  | .builtin .delete=>some true
  | .builtin .append=>(match c.args.toList,c.argTypes.toList with
   | [x,y],[t,t']=>(match S6 (AP ti s t x)with
    | true=>some false
    | false=>(match S6 (AP ti s t' y)with
     | true=>some false
     | false=>none))
   | _,_=>none)
  | _=>none)
 | _=>none
def W3 (M:AY) (ti:Types) (o:Oper) (fresh:Nat) (σ:St) (K:St→Prop):Prop:=
 ∃σ',A8 ⟨σ.slots,σ.heap,fresh⟩ σ'∧σ'.next=fresh∧CI M ti o fresh (AH σ'.slots) (AK σ'.heap) fun out=>K ⟨BR σ'.slots o.dst out.val,Be σ'.heap out.wr,σ'.next⟩
def kU (M:AY) (ti:Types) (o:Oper) (fresh:Nat) (σ:St) (K:St→Prop):Prop:=
 CI M ti o fresh (AH σ.slots) (AK σ.heap) fun out=>K ⟨BR σ.slots o.dst out.val,Be σ.heap out.wr,σ.next⟩
def gX (M:AY) (fresh:Nat) (s:List (Nat×AV)) (h:List (Id×AB)) (n:FuncId) (args:List V1):Prop:=
 ∃(m:List Id) (targs:List V1) (pre:List AB) (v0:Value) (post new:List AB),Iu M.P M.I n targs pre v0 post new∧args=targs.map (V1.Ar (Av m fresh))∧m.length=pre.length∧m.Nodup∧
  (∀(j:Nat) i o,m[j]?=some i→pre[j]?=some o→AK h i=some (o.Ar (Av m fresh)))∧BI pre post∧new.length≤31∧
  M.pn v0 s (Be h (Iv m (Av m fresh) post++B4 fresh (Av m fresh) 0 new)) (fresh+32)
def Ye (M:AY) (ti:Types) (o:Oper) (fresh:Nat) (σ:St):Prop:=
 match o.op with
 | .call c=>match c.callee with
  | .value f=>match AP ti (AH σ.slots) 0 f with
   | .v (.c (.fn n cap))=>∃xs,M9 (BM ti (AH σ.slots) c.args.toList c.argTypes.toList) xs∧gX M fresh σ.slots σ.heap n (xs++cap.map fun i=>V1.c (.ptr i 0))
   | .v (.c (.bm n i))=>∃xs,M9 (BM ti (AH σ.slots) c.args.toList c.argTypes.toList) xs∧gX M fresh σ.slots σ.heap n (V1.c (.ptr i 0)::xs)
   | _=>False
  | _=>False
 | .panic x=>match AP ti (AH σ.slots) 0 x with
  | .v (.c (.kv v))=>match v with
   | .iface t u=>M.pn (.iface t u) σ.slots σ.heap fresh
   | _=>False
  | _=>False
 | _=>False
def FL (M:AY) (ti:Types) (nt:Nat) (o:Oper) (fresh:Nat) (σ:St) (K:St→Prop):Prop:=
 EN o<| D0 nt o.dst<| match DW ti o (AH σ.slots) (AK σ.heap)with
  | some (e,rows)=>Ay (Jz ti o)<| (rows≠[]→K ⟨BR σ.slots o.dst (.v (.d (.bool (BQ e)))),σ.heap,σ.next⟩)∧
    (rows=[]→K ⟨BR σ.slots o.dst (.v (.d (.bool e))),σ.heap,σ.next⟩∧K ⟨BR σ.slots o.dst (.v (.d (.bool (BQ e)))),σ.heap,σ.next⟩)
  | none=>match Bc o with
   | true=>M.lock fun _=>(CI M ti o fresh (AH σ.slots) (AK σ.heap) fun out=>K ⟨BR σ.slots o.dst out.val,Be σ.heap out.wr,σ.next⟩)∨(Pk M ti o fresh σ K∨Ye M ti o fresh σ)
   | false=>match Ir ti o (AH σ.slots) (AK σ.heap)with
    | none=>CI M ti o fresh (AH σ.slots) (AK σ.heap) fun out=>K ⟨BR σ.slots o.dst out.val,Be σ.heap out.wr,σ.next⟩
    | some b=>match b with
     | true=>M.lock fun _=>W3 M ti o fresh σ K
     | false=>M.lock fun _=>kU M ti o fresh σ K∨W3 M ti o fresh σ K
def guarded (ops:Array Oper) (o:Oper) (σ:St) (K1 K0:St→Prop):Prop:=
 match o.guard with
 | none=>K1 σ
 | some (j,want)=>match (ops[j]?).bind (·.dst)with
  | none=>False
  | some d=>match AH σ.slots d with
   | .v (.d (.bool c))=>match want with
    | true=>match c with
     | true=>K1 σ
     | false=>K0 σ
    | false=>match c with
     | true=>K0 σ
     | false=>K1 σ
   | .t []=>K0 σ
   | _=>False
def FM (o:Oper):Option Operand:=
 match o.op with
 | .defer c=>match o.dst with
  | none=>match c.callee with
   | .value x=>match c.args.toList with
    | []=>some x
    | _=>none
   | _=>none
  | some _=>none
 | _=>none
theorem S7 {o:Oper}{x:Operand}(h:FM o=some x):∃c,o.op= .defer c∧o.dst=none∧c.callee= .value x∧c.args=#[]:=by
 unfold FM at h
 split at h
 ·rename_i c ho
  split at h
  ·rename_i hd
   split at h
   ·rename_i y hc
    split at h
    ·rename_i ha
     cases h
     exact⟨c,ho,hd,hc,by apply Array.ext';simpa using ha⟩
    ·cases h
   ·cases h
  ·cases h
 ·cases h
def gY (M:AY) (ti:Types) (x:Operand) (fresh:Nat) (σ:St) (K:St→Prop):Prop:=
 ∃σ',A8 ⟨σ.slots,σ.heap,fresh⟩ σ'∧σ'.next=fresh∧∃f cs rows r,AP ti (AH σ'.slots) 0 x= .v (.c (.fz f (fill cs r.cells)))∧AH σ'.slots DT= .df f cs rows∧M.cl=true∧
  K ⟨BR σ'.slots (some DT) (.df f cs (r::rows)),σ'.heap,σ'.next⟩
def JL (M:AY) (ti:Types) (x:Operand) (fresh:Nat) (σ:St) (K:St→Prop):Prop:=M.lock fun _=>gY M ti x fresh σ K
def BT (M:AY) (ti:Types) (nt:Nat) (ops:Array Oper) (base:Nat):List Oper→Nat→St→(St→Prop)→Prop
 | [],i,σ,K=>K ⟨σ.slots,σ.heap,base+32*i⟩
 | o::r,i,σ,K=>guarded ops o σ
   (fun σ1=>match FM o with
    | some x=>JL M ti x (base+32*i) σ1 fun σ2=>BT M ti nt ops base r (i+1) σ2 K
    | none=>FL M ti nt o (base+32*i) σ1 fun σ2=>BT M ti nt ops base r (i+1) σ2 K)
   (fun σ1=>D0 nt o.dst (BT M ti nt ops base r (i+1) ⟨BR σ1.slots o.dst (.t []),σ1.heap,σ1.next⟩ K))
inductive B5 where
 | normal
 | exit (id:Nat)
 | ret
abbrev LB:=Array Oper→St→(St→Prop)→Prop
def S8 (ex:St→(B5→St→Prop)→Prop) (σ:St) (K:B5→St→Prop):Prop:=
 ∃(I:Nat→St→Prop) (m:Nat),(∃σ0,A8 σ σ0∧I m σ0)∧∀n σ1,I n σ1→ex σ1 fun e σ2=>match e with
  | .normal=>∃n' σ3,n'<n∧A8 σ2 σ3∧I n' σ3
  | .exit id=>K (.exit id) σ2
  | .ret=>K .ret σ2
def IW (M:AY) (ex:St→(B5→St→Prop)→Prop) (K:B5→St→Prop):Nat→St→Prop
 | 0,σ=>M.lock fun _=>S8 ex σ K
 | n+1,σ=>ex σ fun e σ2=>match e with
  | .normal=>IW M ex K n σ2
  | .exit id=>K (.exit id) σ2
  | .ret=>K .ret σ2
def Up (M:AY) (ti:Types) (nt:Nat) (g:Operand) (ps:Array Tmp) (assign body:Code) (σ:St) (K:B5→St→Prop):Prop:=
 ∃σ',A8 σ σ'∧(match AP ti (AH σ'.slots) 0 g with
  | .v (.c (.fn n cap))=>∃sl:List (Nat×AV),(∀t,AH sl t= .u∨AH sl t=AH σ'.slots t)∧
    Qw M none (σ'.next+32) ⟨σ'.slots,CR σ'.heap (.loc σ'.next) (.rnd (fun _=>⟨ps,assign,body,nt⟩) sl),σ'.next+64⟩ n (V1.c (.yl (.loc σ'.next))::cap.map fun i=>V1.c (.ptr i 0)) fun σ2=>
     match AK σ2.heap (.loc σ'.next)with
     | some (.rnd _ _)=>K .normal ⟨σ2.slots,CR σ2.heap (.loc σ'.next) .gone,σ2.next⟩
     | some (.rndX j)=>(match j with
      | none=>K .ret ⟨σ2.slots,CR σ2.heap (.loc σ'.next) .gone,σ2.next⟩
      | some id=>K (.exit id) ⟨σ2.slots,CR σ2.heap (.loc σ'.next) .gone,σ2.next⟩)
     | _=>False
  | _=>False)
def cL (ea eb:St→(B5→St→Prop)→Prop) (σ:St) (K:B5→St→Prop):Prop:=
 (ea σ fun e σ'=>match e with
  | .normal=>eb σ' K
  | .exit id=>K (.exit id) σ'
  | .ret=>K .ret σ')∨
 ∃I:St→Prop,(ea σ fun e σ'=>match e with
  | .normal=>∃σ'',A8 σ' σ''∧I σ''
  | .exit id=>K (.exit id) σ'
  | .ret=>K .ret σ')∧∀σ'',I σ''→eb σ'' K
def exec (M:AY) (ti:Types) (nt:Nat) (dr:LB):Code→St→(B5→St→Prop)→Prop
 | .skip,σ,K=>K .normal σ
 | .region _ ops draw,σ,K=>match draw with
  | false=>BT M ti nt ops σ.next ops.toList 0 σ fun σ'=>K .normal σ'
  | true=>dr ops σ fun σ'=>K .normal σ'
 | .seq a b,σ,K=>M.lock fun _=>cL (fun σ K=>exec M ti nt dr a σ K) (fun σ K=>exec M ti nt dr b σ K) σ K
 | .cond c a b,σ,K=>Lw (AP ti (AH σ.slots) 0 c) fun q=>match q with
  | true=>exec M ti nt dr a σ K
  | false=>exec M ti nt dr b σ K
 | .block id c,σ,K=>exec M ti nt dr c σ fun e σ'=>match e with
  | .normal=>K .normal σ'
  | .exit id'=>match Nat.beq id' id with
   | true=>K .normal σ'
   | false=>K (.exit id') σ'
  | .ret=>K .ret σ'
 | .loop c,σ,K=>M.lock fun _=>S8 (fun σ K=>exec M ti nt dr c σ K) σ K∨∃n,IW M (fun σ K=>exec M ti nt dr c σ K) K n σ
 | .exit id,σ,K=>K (.exit id) σ
 | .ret,σ,K=>K .ret σ
 | .rangeFunc g ps assign body,σ,K=>M.lock fun _=>Up M ti nt g ps assign body σ K
 | _,_,_=>False
def SX (C:Cx) (K:B5→St→Prop):Exit→Act→World→Prop
 | .normal,a,w=>∃C',DV C C'∧∃σ,K .normal σ∧BX C' σ a w
 | .exit id,a,w=>∃C',DV C C'∧∃σ,K (.exit id) σ∧BX C' σ a w
 | .ret,a,w=>∃C',DV C C'∧∃σ,K .ret σ∧BX C' σ a w
 | .panic ch,a,w=>∃C',DV C C'∧∃v0 s h nx,C'.M.pn v0 s h nx∧ch=[{v:=v0,recovered:=false}]∧Rel C' (fun n=>nx≤n) (AH s) (AK h) a w
 | _,_,_=>False
theorem SX.mono {C C':Cx}{K:B5→St→Prop}(L:DV C C'):∀{e:Exit}{a:Act}{w:World},SX C' K e a w→SX C K e a w
 | .normal,_,_,⟨D,L',h⟩=>⟨D,L.trans L',h⟩
 | .exit _,_,_,⟨D,L',h⟩=>⟨D,L.trans L',h⟩
 | .ret,_,_,⟨D,L',h⟩=>⟨D,L.trans L',h⟩
 | .panic _,_,_,⟨D,L',h⟩=>⟨D,L.trans L',h⟩
theorem Rel.AW {C:Cx}{F F':Nat→Prop}{s:AN}{h:AE}{a:Act}{w:World}(R:Rel C F s h a w) (hF:∀n,F' n→F n):Rel C F' s h a w:=
 let ⟨g,r⟩:=R
 ⟨g,r.AW hF⟩
section
variable {C:Cx}{ti:Types}{dr:LB}
theorem E6 {nt:Nat}{d:Option Tmp}{K:Prop}:D0 nt d K↔(∀x,d=some x→x<nt)∧K:=by
 unfold D0
 split
 ·simp
 ·simp[AA]
theorem Hf {o:Oper}{K:Prop}(h:EN o K):((∀t x y,o.op= .store t x y→o.dst=none)∧∀t x y z,(o.op= .mapUpdate t x y z∨o.op= .insert t x y z)→o.dst=none)∧(∀c,o.op≠ .defer c)∧K:=by
 unfold EN at h
 split at h
 ·rename_i ho
  split at h
  ·exact h.elim
  ·rename_i hd
   refine⟨⟨fun _ _ _ _=>hd,fun _ _ _ _ _=>hd⟩,fun c e=>?_,h⟩
   rw[ho]at e;cases e
 ·rename_i ho
  split at h
  ·exact h.elim
  ·rename_i hd
   refine⟨⟨fun _ _ _ _=>hd,fun _ _ _ _ _=>hd⟩,fun c e=>?_,h⟩
   rw[ho]at e;cases e
 ·rename_i ho
  split at h
  ·exact h.elim
  ·rename_i hd
   refine⟨⟨fun _ _ _ _=>hd,fun _ _ _ _ _=>hd⟩,fun c e=>?_,h⟩
   rw[ho]at e;cases e
 ·exact h.elim
 ·rename_i hne hne2 hne3 hnd
  exact⟨⟨fun t x y e=>absurd e (hne t x y),fun t x y z e=>e.elim (fun e=>absurd e (hne2 t x y z)) (fun e=>absurd e (hne3 t x y z))⟩,hnd,h⟩
theorem gZ {F:Nat→Prop}{σ:St}{a:Act}{w:World}{ops:Array Oper}{j d:Nat}{c:Bool}(R:Rel C F (AH σ.slots) (AK σ.heap) a w)
  (hd:(ops[j]?).bind (·.dst)=some d) (hc:AH σ.slots d= .v (.d (.bool c))):yielded ops a.tmps j=some c:=by
 obtain⟨g,R⟩:=R
 have:=R.slots d
 rw[hc]at this
 have hv:=O1 this
 unfold yielded
 rw[hd]
 have:a.tmps[d]?=some (.bool c):=by
  rw[Array.getD_eq_getD_getElem?]at hv
  cases h:a.tmps[d]? with
  | none=>rw[h]at hv;simp[undef]at hv
  | some v=>rw[h]at hv;simpa using hv
 simp[this]
theorem Gz {ops:Array Oper}{a:Act}{j d:Nat}(hd:(ops[j]?).bind (·.dst)=some d) (h:∃vs:Array Value,a.tmps.getD d undef= .tuple vs):yielded ops a.tmps j=none:=by
 obtain⟨vs,hv⟩:=h
 unfold yielded
 rw[hd]
 rw[Array.getD_eq_getD_getElem?]at hv
 cases h:a.tmps[d]? with
 | none=>simp[h]
 | some v=>
  rw[h]at hv
  have hv:v= .tuple vs:=by simpa using hv
  subst hv
  simp[h]
theorem S9 {F:Nat→Prop}{σ:St}{a:Act}{w:World}{ops:Array Oper}{j d:Nat}(R:Rel C F (AH σ.slots) (AK σ.heap) a w)
  (hd:(ops[j]?).bind (·.dst)=some d) (hc:AH σ.slots d= .t []):yielded ops a.tmps j=none:=by
 obtain⟨g,R⟩:=R
 have:=R.slots d
 rw[hc]at this
 obtain⟨vs,hv,_⟩:=this
 exact Gz hd ⟨vs,hv⟩
theorem PC {F:Nat→Prop}{σ:St}{a:Act}{w:World}{ops:Array Oper}{o:Oper}{K1 K0:St→Prop}(R:Rel C F (AH σ.slots) (AK σ.heap) a w)
  (hk:guarded ops o σ K1 K0):∃σ',σ'.heap=σ.heap∧Rel C F (AH σ'.slots) (AK σ'.heap) a w∧
   ((Region.wanted o (yielded ops a.tmps)=true∧K1 σ')∨(Region.wanted o (yielded ops a.tmps)=false∧K0 σ')):=by
 unfold guarded at hk
 split at hk
 ·rename_i hg
  exact⟨σ,rfl,R,.inl ⟨by simp[Region.wanted,hg],hk⟩⟩
 ·rename_i j want hg
  split at hk
  ·exact hk.elim
  ·rename_i d hd
   split at hk
   ·rename_i c hc
    have hy:=gZ R hd hc
    cases want<;>cases c
    ·exact⟨σ,rfl,R,.inl ⟨by simp[Region.wanted,hg,hy],hk⟩⟩
    ·exact⟨σ,rfl,R,.inr ⟨by simp[Region.wanted,hg,hy],hk⟩⟩
    ·exact⟨σ,rfl,R,.inr ⟨by simp[Region.wanted,hg,hy],hk⟩⟩
    ·exact⟨σ,rfl,R,.inl ⟨by simp[Region.wanted,hg,hy],hk⟩⟩
   ·rename_i hc
    have hy:=S9 R hd hc
    exact⟨σ,rfl,R,.inr ⟨by simp[Region.wanted,hg,hy],hk⟩⟩
   ·exact hk.elim
theorem Nj {w:World}{X Z:Ad}{g:AL}{h:AE}(RH:C9 w X g h) {x:AV}{rows:List D}{v:Value}(hx:Qv h x=some rows) (hr:An w Z g h x v):∃A n cap,v= .slice A n cap∧(rows≠[]→A.isNone=false):=by
 have main:∀{ag:Bool} {sz:Nat},AX w Z (.list ag sz rows) v→∃A n cap,v= .slice A n cap∧(rows≠[]→A.isNone=false):=by
  intro ag sz hd
  obtain⟨A,cap,hv,_,_,_,b,o,hA,_⟩:=IM hd
  exact⟨A,_,cap,hv,fun hne=>by rw[hA hne];rfl⟩
 unfold Qv at hx
 split at hx
 ·cases hx;exact main hr
 ·cases hx;exact main hr.1
 ·cases hx;exact main hr.1
 ·rename_i i
  split at hx
  ·rename_i kd ag sz rows' foc hi
   split at hx
   ·cases hx
    obtain⟨ht,h0,hf,xs,ho,_⟩:=RH.objs i _ hi
    obtain⟨A,cap,hv,_,_,hA⟩:=ho.row
    refine⟨A,_,cap,by rw[hr.2.2 (by rw[hi];rfl),hv],fun hne=>?_⟩
    obtain⟨b,rfl⟩:=hA (List.length_pos_iff.2 hne)
    rfl
   ·cases hx
    obtain⟨ht,h0,hf,xs,ho,_⟩:=RH.objs i _ hi
    obtain⟨A,cap,hv,_,_,hA⟩:=ho.WY.row
    refine⟨A,_,cap,by rw[hr.2.2 (by rw[hi];rfl),hv],fun hne=>?_⟩
    obtain⟨b,rfl⟩:=hA (List.length_pos_iff.2 hne)
    rfl
   ·cases hx
  ·cases hx
 ·cases hx
theorem Nl {w:World}{Z:Ad}{g:AL}{h:AE}{x:AV}{v:Value}(hx:He x=true) (hr:An w Z g h x v):v= .slice none 0 0:=by
 unfold He at hx
 split at hx
 ·exact hr
 ·cases hx
theorem W4 {P:Program}{t e:TypeId}(h:P.underlying t=some (.slice e)) (A:Option Addr) (n cap:Nat) (w:World) (d:Nat):
  (Op.equalIn (d+1) t (.slice A n cap) (.slice none 0 0)).run P w= .ok A.isNone w∧(Op.equalIn (d+1) t (.slice none 0 0) (.slice A n cap)).run P w= .ok A.isNone w:=by
 constructor<;>cases A<;>simp[Op.equalIn,run_underlying h w]
theorem TA {P:Program}{t e:TypeId}(h:P.underlying t=some (.slice e)) (A:Option Addr) (n cap:Nat) (w:World):
  (Op.equal t (.slice A n cap) (.slice none 0 0)).run P w= .ok A.isNone w∧(Op.equal t (.slice none 0 0) (.slice A n cap)).run P w= .ok A.isNone w:=
 W4 h A n cap w 9999
theorem W5 {C:Cx}{ti:Types}(hti:Ao C.P ti) {o:Oper}{F:Nat→Prop}{s:AN}{h:AE}{g:AL}{a:Act}{w:World}(R:AR C F s h g a w) {e:Bool}{rows:List D}(hn:DW ti o s h=some (e,rows)) (hs:Jz ti o=true):
  ∃c:Bool,(execOp a.eval o).run C.P w= .ok (.value (.bool (if c then e else !e))) w∧(rows≠[]→c=false):=by
 unfold DW at hn
 split at hn
 ·rename_i op t x y t' ho
  split at hn
  ·rename_i e' he
   unfold Jz at hs
   rw[ho]at hs
   simp only at hs
   split at hs
   ·rename_i i hi
    split at hs
    ·rename_i el hd
     have hu:=(hti t i hi).1
     rw[hd]at hu
     have ex:=AI ti t x R (s:=s) (fun _ _=>rfl)
     have ey:=AI ti t y R (s:=s) (fun _ _=>rfl)
     have fin:∀(A:Option Addr) (r:Sem Bool),(Op.equal t (a.eval x) (a.eval y)).run C.P w= .ok A.isNone w→(∃n cap,a.eval x= .slice A n cap∨a.eval y= .slice A n cap)→(∃n cap A',a.eval x= .slice A' n cap)→(∃n cap A',a.eval y= .slice A' n cap)→(rows≠[]→A.isNone=false)→e'=e→
       ∃c:Bool,(execOp a.eval o).run C.P w= .ok (.value (.bool (if c then e else !e))) w∧(rows≠[]→c=false):=by
      rintro A r hrun _ ⟨n,cap,A1,hx⟩ ⟨m,cap',A2,hy⟩ hne rfl
      refine⟨A.isNone,?_,hne⟩
      rw[hx,hy]at hrun
      unfold nQ at he
      split at he<;>cases he<;>cases hA:A.isNone<;>simp[execOp,ho,hx,hy,eqGuard,binOp,hrun,hA]
     split at hn
     ·rename_i hny
      split at hn
      ·rename_i rows' hrx
       obtain⟨A,n,cap,hv,hA⟩:=Nj R.heap hrx ex
       have hyv:=Nl hny ey
       cases hn
       exact fin A (pure true) (by rw[hv,hyv];exact (TA hu A n cap w).1) ⟨n,cap,.inl hv⟩ ⟨n,cap,A,hv⟩ ⟨0,0,none,hyv⟩ hA rfl
      ·cases hn
     ·split at hn
      ·rename_i hnx
       split at hn
       ·rename_i rows' hry
        obtain⟨A,n,cap,hv,hA⟩:=Nj R.heap hry ey
        have hxv:=Nl hnx ex
        cases hn
        exact fin A (pure true) (by rw[hv,hxv];exact (TA hu A n cap w).2) ⟨n,cap,.inr hv⟩ ⟨0,0,none,hxv⟩ ⟨n,cap,A,hv⟩ hA rfl
       ·cases hn
      ·cases hn
    ·cases hs
   ·cases hs
  ·cases hn
 ·cases hn
theorem J0 {F:Nat→Prop}{σ:St}{g:AL}{a:Act}{w:World}{fresh:Nat}{dst:Option Tmp}{n:FuncId}{xs:List V1}{K:St→Prop}{Q:Exit→Act→World→Prop}{vals:Array Value}
  (R:AR C F (AH σ.slots) (AK σ.heap) g a w) (hk:Qw C.M dst fresh σ n xs K) (hF:∀k,k<32→F (fresh+k)) (hd:∀d,dst=some d→d<C.nt) (hsz:vals.size=xs.length)
  (hargs:∀(j:Nat) x v,xs[j]?=some x→vals[j]?=some v→Ag w (Al (zone g (AK σ.heap)) C.X) g (AK σ.heap) x v):
  (∃fn c,C.P.funcs[n]?=some fn∧fn.body=some c∧(fn.name== "runtime.NumGoroutine")=false)∧
  Calls C.P n vals w fun
   | .returned v,w''=>∃σ2,K σ2∧σ2.next=σ.next∧∃g2,(∀i q,g i= .map (some q)→g2 i=g i)∧AR C (fun k=>F k∧¬(fresh≤k∧k<fresh+32)) (AH σ2.slots) (AK σ2.heap) g2 (a.put dst v) w''
   | .panicked chain,w''=>Q (.panic chain) a w''
   | .outgrown,_=>LetsOut Q:=by
 obtain⟨m,targs,pre,Qp,ht,rfl,hlen,hnd,hpre,hK⟩:=hk
 refine⟨ht.1,?_⟩
 refine Calls.mono (DC (Qp:=Qp) (Run:=fun p=>Calls C.P n vals w p) (vals:=vals) (dst:=dst) (Q:=Q) R (fun hpq hp=>hp.mono hpq)
  (fun X g1 _ k1 k2 k3 k4 k6=>ht.2 w X g1 vals k1 k2 k3 k4 (by rw[hsz];simp) k6) hlen hnd hpre (fun r p q h=>(hK r p q h).1) hF hd hargs) ?_
 intro e w' he
 cases e with
 | returned v=>
  obtain⟨res,post,new,hq,he⟩:=he
  refine⟨_,(hK res post new hq).2,rfl,?_⟩
  rw[CU,Bw]
  exact he
 | panicked ch=>exact he
 | outgrown=>exact he
theorem W6 {h:AE}{r:Id→Id}{m:List Id}{pre:List AB}{i:Id}{o:AB}(hp:Ni h r m pre) (hl:m.length=pre.length) (hi:h i=some (o.Ar r)):Ni h r (m++[i]) (pre++[o]):=by
 intro j i' o' hm ho
 by_cases hj:j<m.length
 ·rw[List.getElem?_append_left hj]at hm
  rw[List.getElem?_append_left (by omega)]at ho
  exact hp j i' o' hm ho
 ·rw[List.getElem?_append_right (by omega)]at hm
  rw[List.getElem?_append_right (by omega),←hl]at ho
  have:j - m.length=0:=by
   rcases Nat.eq_zero_or_pos (j - m.length)with h | h
   ·exact h
   ·rw[List.getElem?_eq_none (by simp;omega)]at hm;cases hm
  rw[this]at hm ho
  simp at hm ho
  subst hm;subst ho
  exact hi
theorem J1 {a b:AB}:∀{pre post:List AB},BI pre post→sameKind a b→BI (pre++[a]) (post++[b])
 | [],[],_,h=>⟨h,trivial⟩
 | _::_,_::_,h,k=>⟨h.1,J1 h.2 k⟩
 | [],_::_,h,_=>h.elim
 | _::_,[],h,_=>h.elim
theorem Qx {F:Nat→Prop}{σ:St}{g:AL}{a:Act}{w:World}{fresh:Nat}{dst:Option Tmp}{i:Id}{r:Unit→RF}{sl:List (Nat×AV)}{xs:List V1}{K:St→Prop}{Q:Exit→Act→World→Prop}{vals:Array Value}
  (R:AR C F (AH σ.slots) (AK σ.heap) g a w) (hi:AK σ.heap i=some (.rnd r sl)) (hk:Uo C.M dst fresh σ i r sl xs K) (hF:∀k,k<32→F (fresh+k)) (hd:∀d,dst=some d→d<C.nt) (hsz:vals.size=xs.length)
  (hargs:∀(j:Nat) x v,xs[j]?=some x→vals[j]?=some v→Ag w (Al (zone g (AK σ.heap)) C.X) g (AK σ.heap) x v):
  ∃l L,g i= .map (some l)∧w.heap[l]?=some (.loop L)∧vals.size=L.params.size∧
  RoundIn Fence.wide 0 C.P l L.fn (Em L.params vals L.tmps) L.assign L.body w fun
   | .returned v,w''=>∃σ2,K σ2∧σ2.next=σ.next∧∃g2,(∀i q,g i= .map (some q)→g2 i=g i)∧AR C (fun k=>F k∧¬(fresh≤k∧k<fresh+32)) (AH σ2.slots) (AK σ2.heap) g2 (a.put dst v) w''
   | .panicked chain,w''=>Q (.panic chain) a w''
   | .outgrown,_=>LetsOut Q:=by
 obtain⟨m,targs,pre,sl0,Qp,ht,rfl,rfl,hlen,hnd,hpre,hK⟩:=hk
 have hsz':vals.size=targs.length:=by rw[hsz];simp
 obtain⟨l,L,hv,hl,_,_,l3,l4,l5,l6,_⟩:=R.heap.objs i _ hi
 refine⟨l,L,hv,hl,by rw[hsz',ht.1,l3],?_⟩
 refine RoundIn.mono (DC (Qp:=fun res post new=>∃j post0,Qp j post0 new∧res= .v (.d (.bool j.isNone))∧post=post0++[D8 j r sl0]) (targs:=targs) (m:=m++[i]) (pre:=pre++[.rnd r sl0])
  (Run:=fun p=>RoundIn Fence.wide 0 C.P l L.fn (Em L.params vals L.tmps) L.assign L.body w p) (vals:=vals) (dst:=dst) (Q:=Q) R (fun hpq hp=>hp.mono hpq)
  (fun X g1 kg k1 k2 k3 k4 k6=>by
   obtain⟨l',L',e1,e2,_,hr⟩:=Ui ht (fun j p q h=>(hK j p q h).1) k1 k2 k3 k4 hsz' k6
   have:g1 (.ext pre.length)= .map (some l):=by
    rw[kg,←hlen]
    show g (Av (m++[i]) fresh (.ext m.length))=_
    simp[Av,hv]
   rw[e1]at this
   cases this
   rw[hl]at e2
   cases e2
   exact hr) (by simp[hlen]) hnd (W6 hpre hlen (by rw[hi];rfl)) (fun res post new h=>by
    obtain⟨j,post0,hq,rfl,rfl⟩:=h
    obtain⟨q1,q2⟩:=(hK j post0 new hq).1
    exact⟨J1 q1 (by cases j<;>trivial),q2⟩) hF hd hargs) ?_
 intro e w' he
 cases e with
 | returned v=>
  obtain⟨res,post,new,⟨j,post0,hq,rfl,rfl⟩,he⟩:=he
  refine⟨_,(hK j post0 new hq).2,rfl,?_⟩
  rw[CU,Bw]
  exact he
 | panicked ch=>exact he
 | outgrown=>exact he
theorem AR.defer {F:Nat→Prop}{s:AN}{h:AE}{g:AL}{a:Act}{w:World}(R:AR C F s h g a w) (hc:C.M.cl=true) {f:Nat}{cs:List FC}{rows:List D}{r:D}{ps:Array Value}(hs:s DT= .df f cs rows)
  (hr:FB w (Al (zone g h) C.X) g f (fill cs r.cells) (.func (.func f) #[] ps)):AR C F (Bp s (some DT) (.df f cs (r::rows))) h g {a with defers:=⟨.fn (.func f) ps,#[]⟩::a.defers} w:=by
 have hd:=R.defers
 rw[hc,hs]at hd
 obtain⟨h1,h2⟩:=hd f cs rows rfl
 refine {R with defers:=?_,slots:=fun t=>?_}
 ·rw[hc]
  simp only[Bp,if_pos]
  rintro f' cs' rows' e
  cases e
  refine⟨by simp[h1],fun k y d hy hd=>?_⟩
  cases k with
  | zero=>simp at hy hd;subst hy;subst hd;exact⟨ps,rfl,hr⟩
  | succ k=>simp at hy hd;exact h2 k y d hy hd
 ·simp only[Bp]
  split
  ·trivial
  ·exact R.slots t
theorem Nn {F:Nat→Prop}{s:List (Nat×AV)}{h:List (Id×AB)}{g:AL}{a:Act}{w:World}{fresh:Nat}{n:FuncId}{xs:List V1}{Q:Exit→Act→World→Prop}{vals:Array Value}
  (R:AR C F (AH s) (AK h) g a w) (hk:gX C.M fresh s h n xs) (hF:∀k,fresh≤k→F k) (hsz:vals.size=xs.length)
  (hargs:∀(j:Nat) x v,xs[j]?=some x→vals[j]?=some v→Ag w (Al (zone g (AK h)) C.X) g (AK h) x v)
  (hP:∀v0 s h nx a w,C.M.pn v0 s h nx→Rel C (fun n=>nx≤n) (AH s) (AK h) a w→Q (.panic [{v:=v0,recovered:=false}]) a w):
  (∃fn c,C.P.funcs[n]?=some fn∧fn.body=some c∧(fn.name== "runtime.NumGoroutine")=false)∧
  Calls C.P n vals w fun
   | .returned _,_=>False
   | .panicked chain,w''=>Q (.panic chain) a w''
   | .outgrown,_=>LetsOut Q:=by
 obtain⟨m,targs,pre,v0,post,new,ht,rfl,hlen,hnd,hpre,hkd,hnew,hpn⟩:=hk
 refine⟨ht.1,?_⟩
 have core:=DC (C:=C) (Qp:=fun r p q=>r= .u∧p=post∧q=new) (Run:=fun p=>Calls C.P n vals w fun e w'=>∃v,e= .panicked [{v:=v0,recovered:=false}]∧p (.returned v) w') (vals:=vals) (dst:=none) (Q:=fun _ _ _=>False) (a:=a) (fresh:=fresh) R
  (fun hpq hp=>hp.mono fun e w' ⟨v,h1,h2⟩=>⟨v,h1,hpq _ _ h2⟩)
  (fun X g1 _ k1 k2 k3 k4 k6=>(ht.2 w X g1 vals k1 k2 k3 k4 (by rw[hsz];simp) k6).mono (by rintro e w' ⟨g',h1,h2⟩;exact⟨undef,h1,undef,g',.u,post,new,⟨rfl,rfl,rfl⟩,rfl,h2⟩))
  hlen hnd hpre (by rintro _ _ _ ⟨rfl,rfl,rfl⟩;exact⟨hkd,hnew⟩) (fun k _=>hF _ (by omega)) (fun d hd=>by cases hd) hargs
 refine core.mono ?_
 rintro e w' ⟨v,rfl,he⟩
 obtain⟨res,p,q,⟨rfl,rfl,rfl⟩,g2,_,R2⟩:=he
 exact hP _ _ _ _ _ _ hpn ⟨g2,by rw[Bw];exact R2.AW fun n hn=>⟨hF n (by omega),by omega⟩⟩
theorem CM (hti:Ao C.P ti) (h1:BB ti) {ops:Array Oper}{base:Nat}{K:St→Prop}{Q:Exit→Act→World→Prop}
  (hQ:∀σ a w,K σ→BX C σ a w→Q .normal a w) (hP:∀v0 s h nx a w,C.M.pn v0 s h nx→Rel C (fun n=>nx≤n) (AH s) (AK h) a w→Q (.panic [{v:=v0,recovered:=false}]) a w):∀(l:List Oper) (i:Nat) (σ:St) (a:Act) (w:World),ops.toList.drop i=l→
   BT C.M ti C.nt ops base l i σ K→Rel C (fun n=>base+32*i≤n) (AH σ.slots) (AK σ.heap) a w→wpOpsIn (A7 C.ro) 0 C.P ops Q (List.range' i l.length) a w
 | [],i,σ,a,w,_,hk,R=>hQ _ a w hk R
 | o::r,i,σ,a,w,hl,hk,R=>by
  have hi:ops[i]?=some o:=by
   have:=congrArg (fun l=>l[0]?) hl
   simpa using this
  have hr:ops.toList.drop (i+1)=r:=by
   have:=congrArg List.tail hl
   simpa using this
  simp only[List.length_cons,List.range'_succ]
  rw[wpOpsIn_cons]
  unfold wpOpIn
  rw[hi]
  simp only[]
  obtain⟨σ',hh,R',⟨hw,hk⟩ | ⟨hw,hk⟩⟩:=PC R hk
  ·rw[if_pos hw]
   have hk:(match FM o with
    | some x=>JL C.M ti x (base+32*i) σ' fun σ2=>BT C.M ti C.nt ops base r (i+1) σ2 K
    | none=>FL C.M ti C.nt o (base+32*i) σ' fun σ2=>BT C.M ti C.nt ops base r (i+1) σ2 K):=hk
   cases hdc:FM o with
   | some x=>
    rw[hdc]at hk
    obtain⟨c,ho,hdst,hcal,hargs⟩:=S7 hdc
    obtain⟨σ1,hwk,hnx,f,cs,rows,r',hop,hdt,hcl,hk⟩:=(C.M.lock_iff _).1 hk
    obtain⟨g,R2⟩:=hwk C a w R'
    have hf:=AI ti 0 x R2 (s:=AH σ1.slots) (fun _ _=>rfl)
    rw[hop]at hf
    obtain⟨ps,hfv,hlen,hbx⟩:=hf
    refine⟨fun f _=>B9 _ f,?_⟩
    rw[(C.hcl hcl).2]
    have hrun:(o.semAt (A7 none).round a.eval).run C.P w= .ok (.defer ⟨.fn (.func f) ps.toArray,#[]⟩) w:=by
     show (execOp a.eval o).run C.P w=_
     simp[execOp,ho,resolve,hcal,hfv,Deferred.ofValue,hargs]
    rw[hrun,Oper.uponIn_defer,hdst]
    have R3:=R2.defer hcl hdt (ps:=ps.toArray) ⟨ps,rfl,hlen,hbx⟩
    have:=CM hti h1 hQ hP r (i+1) _ {a with defers:=⟨.fn (.func f) ps.toArray,#[]⟩::a.defers} w hr hk ⟨g,by
     rw[CU]
     exact R3.AW (fun n hn=>by omega)⟩
    rw[(C.hcl hcl).2]at this
    exact this
   | none=>
   rw[hdc]at hk
   obtain⟨hst,hnd,hk⟩:=Hf hk
   obtain⟨hd,hk⟩:=E6.1 hk
   split at hk
   ·rename_i e rows hnc
    obtain⟨hs,hk1,hk2⟩:=AA.1 hk
    obtain⟨g,R2⟩:=R'
    obtain⟨c,hrun,hc⟩:=W5 hti R2 hnc hs
    refine HZ hnd ?_
    unfold Oper.wp
    rw[hrun]
    have fin:∀b:Bool,BT C.M ti C.nt ops base r (i+1) ⟨BR σ'.slots o.dst (.v (.d (.bool b))),σ'.heap,σ'.next⟩ K→wpOpsIn (A7 C.ro) 0 C.P ops Q (List.range' (i+1) r.length) (a.put o.dst (.bool b)) w:=by
     intro b hk
     refine CM hti h1 hQ hP r (i+1) _ _ w hr hk ?_
     rw[CU]
     exact⟨g,(R2.put hd (v:=.v (.d (.bool b))) (.bool b)).AW (fun n hn=>by omega)⟩
    by_cases hne:rows=[]
    ·obtain⟨k1,k2⟩:=hk2 hne
     cases c with
     | true=>exact fin e k1
     | false=>have:=fin (BQ e) k2;rw[DB]at this;exact this
    ·rw[hc hne]
     have:=fin (BQ e) (hk1 hne)
     rw[DB]at this
     exact this
   have plain:CI C.M ti o (base+32*i) (AH σ'.slots) (AK σ'.heap) (fun out=>BT C.M ti C.nt ops base r (i+1) ⟨BR σ'.slots o.dst out.val,Be σ'.heap out.wr,σ'.next⟩ K)→
     Oper.wpIn (A7 C.ro) 0 C.P o a w (wpOpsIn (A7 C.ro) 0 C.P ops Q (List.range' (i+1) r.length)) Q:=by
    intro hk
    obtain⟨out,hk,hok⟩:=Fx hti h1 hst.1 hst.2 hk
    refine HZ hnd ?_
    refine Oper.wp_mono ?_ (hok _ _ _ a w Q R' (fun _ _=>rfl) (fun _ _=>rfl) (fun k hk=>by omega) hd)
    intro a' w' R2
    refine CM hti h1 hQ hP r (i+1) _ a' w' hr hk ?_
    rw[CU,Bw]
    exact R2.AW (fun n hn=>by omega)
   have ghost:W3 C.M ti o (base+32*i) σ' (fun σ2=>BT C.M ti C.nt ops base r (i+1) σ2 K)→Oper.wpIn (A7 C.ro) 0 C.P o a w (wpOpsIn (A7 C.ro) 0 C.P ops Q (List.range' (i+1) r.length)) Q:=by
    rintro⟨σ1,hwk,hnx,hk⟩
    have R2:=hwk C a w R'
    obtain⟨out,hk,hok⟩:=Fx hti h1 hst.1 hst.2 hk
    refine HZ hnd ?_
    refine Oper.wp_mono ?_ (hok _ _ _ a w Q R2 (fun _ _=>rfl) (fun _ _=>rfl) (fun k hk=>by omega) hd)
    intro a' w' R3
    refine CM hti h1 hQ hP r (i+1) _ a' w' hr hk ?_
    rw[CU,Bw]
    exact R3.AW (fun n hn=>by omega)
   split at hk
   rotate_left
   ·split at hk
    ·exact plain hk
    ·split at hk
     ·exact ghost ((C.M.lock_iff _).1 hk)
     ·rcases (C.M.lock_iff _).1 hk with hk | hk
      ·exact plain hk
      ·exact ghost hk
   rcases (C.M.lock_iff _).1 hk with hk | hk
   ·exact plain hk
   rcases hk with hk | hk
   rotate_left
   ·unfold Ye at hk
    split at hk
    rotate_left
    ·rename_i x ho
     split at hk
     ·rename_i v hv
      split at hk
      ·rename_i t u
       obtain⟨g,R2⟩:=R'
       have hf:=AI ti 0 x R2 (s:=AH σ'.slots) (fun _ _=>rfl)
       rw[hv]at hf
       have hf:=hf.1
       refine⟨fun f _=>B9 _ f,?_⟩
       rw[Oper.semAt_eq _ _ _ hnd]
       have hrun:(execOp a.eval o).run C.P w= .halt (.panic (.iface t u)) w:=by
        have hp:(Instr.panic (.iface t u)).run C.P w= .halt (.panic (.iface t u)) w:=rfl
        simp[execOp,ho,hf,hp]
       rw[hrun,Oper.uponIn_panic]
       exact hP _ _ _ _ _ _ hk ⟨g,R2⟩
      ·exact hk.elim
     ·exact hk.elim
    ·exact hk.elim
    rename_i c ho
    split at hk
    rotate_left
    ·exact hk.elim
    rename_i f hc
    obtain⟨g,R2⟩:=R'
    have hf:=AI ti 0 f R2 (s:=AH σ'.slots) (fun _ _=>rfl)
    refine⟨fun f _=>B9 _ f,?_⟩
    rw[Oper.semAt_eq _ _ _ hnd]
    split at hk
    ·rename_i n cap hop
     rw[hop]at hf
     obtain⟨hfv,hcap⟩:=hf
     obtain⟨xs,hxs,hk⟩:=hk
     obtain⟨h3,h4⟩:=DD (ti:=ti) R2 c.args.toList c.argTypes.toList xs (fun t ht=>rfl) hxs
     obtain⟨⟨fn,body,hfn,hb,hname⟩,hcall⟩:=Nn (Q:=Q) (vals:=c.args.map a.eval++(cap.map (fun i=>Bu (g i) 0)).toArray) R2 hk (fun k hk=>hk) (by simp[h3]) (fun j x v hx hv=>by
      simp only[Array.getElem?_append,Array.size_map,List.getElem?_toArray]at hv
      by_cases hj:j<c.args.size
      ·rw[if_pos hj]at hv
       rw[List.getElem?_append_left (by rw[h3];simpa using hj)]at hx
       simp only[Array.getElem?_map,Option.map_eq_some_iff]at hv
       obtain⟨p,hp,rfl⟩:=hv
       exact h4 j x p hx (by simpa using hp)
      ·rw[if_neg hj]at hv
       rw[List.getElem?_append_right (by rw[h3];simpa using hj),h3]at hx
       simp only[List.getElem?_map,Option.map_eq_some_iff,Array.length_toList]at hx hv
       obtain⟨i,hi,rfl⟩:=hx
       obtain⟨i',hi',rfl⟩:=hv
       rw[hi]at hi'
       obtain rfl:i=i':=by simpa using hi'
       obtain⟨b,hb'⟩:=hcap i (List.mem_of_getElem? hi)
       exact⟨⟨b,hb'⟩,rfl⟩) hP
     have hrun:(execOp a.eval o).run C.P w= .ok (.enter n (c.args.map a.eval++(cap.map (fun i=>Bu (g i) 0)).toArray)) w:=by
      have hn':¬fn.name= "runtime.NumGoroutine" :=by simpa using hname
      simp[execOp,ho,resolve,hc,hfv,Deferred.ofValue,invoke,callFunc,hfn,hb,hn']
     rw[hrun,Oper.uponIn_enter]
     refine⟨Bo _,CL (hcall.mono ?_)⟩
     intro e w' he
     cases e with
     | returned v=>exact he.elim
     | panicked ch=>exact he
     | outgrown=>exact he
    ·rename_i n i0 hop
     rw[hop]at hf
     obtain⟨⟨b0,hb0⟩,hfv⟩:=hf
     obtain⟨xs,hxs,hk⟩:=hk
     obtain⟨h3,h4⟩:=DD (ti:=ti) R2 c.args.toList c.argTypes.toList xs (fun t ht=>rfl) hxs
     obtain⟨⟨fn,body,hfn,hb,hname⟩,hcall⟩:=Nn (Q:=Q) (vals:=#[Bu (g i0) 0]++c.args.map a.eval) R2 hk (fun k hk=>hk) (by simp[h3];omega) (fun j x v hx hv=>by
      cases j with
      | zero=>
       rw[Array.getElem?_append_left (by simp)]at hv
       simp at hx hv
       subst hx
       subst hv
       exact⟨⟨b0,hb0⟩,rfl⟩
      | succ j=>
       simp only[List.getElem?_cons_succ]at hx
       simp only[Array.getElem?_append,Array.size_map]at hv
       rw[if_neg (by simp)]at hv
       simp only[Array.getElem?_map,Option.map_eq_some_iff]at hv
       obtain⟨p,hp,rfl⟩:=hv
       exact h4 j x p hx (by simpa using hp)) hP
     have hrun:(execOp a.eval o).run C.P w= .ok (.enter n (#[Bu (g i0) 0]++c.args.map a.eval)) w:=by
      have hn':¬fn.name= "runtime.NumGoroutine" :=by simpa using hname
      simp[execOp,ho,resolve,hc,hfv,Deferred.ofValue,invoke,callFunc,hfn,hb,hn']
     rw[hrun,Oper.uponIn_enter]
     refine⟨Bo _,CL (hcall.mono ?_)⟩
     intro e w' he
     cases e with
     | returned v=>exact he.elim
     | panicked ch=>exact he
     | outgrown=>exact he
    ·exact hk.elim
   unfold Pk at hk
   split at hk
   rotate_left
   ·exact hk.elim
   rename_i c ho
   split at hk
   rotate_left
   ·exact hk.elim
   rename_i f hc
   obtain⟨σ1,hwk,hnx,hk⟩:=hk
   obtain⟨g,R2⟩:=hwk C a w R'
   have hF:∀k,k<32→σ1.next≤base+32*i+k:=fun k _=>by omega
   have hf:=AI ti 0 f R2 (s:=AH σ1.slots) (fun _ _=>rfl)
   have fin:∀(σ2:St) (g2:AL) (v:Value) (w':World),BT C.M ti C.nt ops base r (i+1) σ2 K→AR C (fun k=>σ1.next≤k∧¬(base+32*i≤k∧k<base+32*i+32)) (AH σ2.slots) (AK σ2.heap) g2 (a.put o.dst v) w'→
     wpOpsIn (A7 C.ro) 0 C.P ops Q (List.range' (i+1) r.length) (a.put o.dst v) w':=fun σ2 g2 v w' hk2 R3=>
    CM hti h1 hQ hP r (i+1) σ2 _ w' hr hk2 ⟨g2,R3.AW (fun n hn=>by omega)⟩
   refine⟨fun f _=>B9 _ f,?_⟩
   rw[Oper.semAt_eq _ _ _ hnd]
   split at hk
   ·rename_i n cap hop
    rw[hop]at hf
    obtain⟨hfv,hcap⟩:=hf
    unfold withArgs at hk
    split at hk
    rotate_left
    ·exact hk.elim
    rename_i xs hxs
    obtain⟨h3,h4⟩:=Ea (ti:=ti) R2 c.args.toList c.argTypes.toList xs (fun t ht=>rfl) hxs
    obtain⟨⟨fn,body,hfn,hb,hname⟩,hcall⟩:=J0 (Q:=Q) (vals:=c.args.map a.eval++(cap.map (fun i=>Bu (g i) 0)).toArray) R2 hk hF hd (by simp[h3]) (fun j x v hx hv=>by
     simp only[Array.getElem?_append,Array.size_map,List.getElem?_toArray]at hv
     by_cases hj:j<c.args.size
     ·rw[if_pos hj]at hv
      rw[List.getElem?_append_left (by rw[h3];simpa using hj)]at hx
      simp only[Array.getElem?_map,Option.map_eq_some_iff]at hv
      obtain⟨p,hp,rfl⟩:=hv
      exact h4 j x p hx (by simpa using hp)
     ·rw[if_neg hj]at hv
      rw[List.getElem?_append_right (by rw[h3];simpa using hj),h3]at hx
      simp only[List.getElem?_map,Option.map_eq_some_iff,Array.length_toList]at hx hv
      obtain⟨i,hi,rfl⟩:=hx
      obtain⟨i',hi',rfl⟩:=hv
      rw[hi]at hi'
      obtain rfl:i=i':=by simpa using hi'
      obtain⟨b,hb'⟩:=hcap i (List.mem_of_getElem? hi)
      exact⟨⟨b,hb'⟩,rfl⟩)
    have hrun:(execOp a.eval o).run C.P w= .ok (.enter n (c.args.map a.eval++(cap.map (fun i=>Bu (g i) 0)).toArray)) w:=by
     have hn':¬fn.name= "runtime.NumGoroutine" :=by simpa using hname
     simp[execOp,ho,resolve,hc,hfv,Deferred.ofValue,invoke,callFunc,hfn,hb,hn']
    rw[hrun,Oper.uponIn_enter]
    refine⟨Bo _,CL (hcall.mono ?_)⟩
    intro e w' he
    cases e with
    | returned v=>obtain⟨σ2,hk2,_,g2,_,R3⟩:=he;exact fin σ2 g2 v w' hk2 R3
    | panicked ch=>exact he
    | outgrown=>exact he
   ·rename_i id hop
    rw[hop]at hf
    obtain⟨l0,hg0,hfv⟩:=hf
    unfold withArgs at hk
    split at hk
    rotate_left
    ·exact hk.elim
    rename_i xs hxs
    obtain⟨h3,h4⟩:=Ea (ti:=ti) R2 c.args.toList c.argTypes.toList xs (fun t ht=>rfl) hxs
    split at hk
    rotate_left
    ·exact hk.elim
    rename_i rf sl hid
    obtain⟨l,L,hgl,hL,hps,hround⟩:=Qx (Q:=Q) (vals:=c.args.map a.eval) R2 hid hk hF hd (by simp[h3]) (fun j x v hx hv=>by
     simp only[Array.getElem?_map,Option.map_eq_some_iff]at hv
     obtain⟨p,hp,rfl⟩:=hv
     exact h4 j x p hx (by simpa using hp))
    rw[hg0]at hgl
    obtain rfl:l0=l:=by cases hgl;rfl
    have hrun:(execOp a.eval o).run C.P w= .ok (.round l0 L.fn (Em L.params (c.args.map a.eval) L.tmps) L.assign L.body) w:=by
     have:(Instr.yield l0 (c.args.map a.eval)).run C.P w= .ok (.round l0 L.fn (Em L.params (c.args.map a.eval) L.tmps) L.assign L.body) w:=run_yield (P:=C.P) (args:=c.args.map a.eval) hL hps
     simp only[execOp,ho,resolve,hc,hfv,Deferred.ofValue,invoke,Sem.run_bind,Result.andThen,Sem.run_pure]
     first
      | exact this
      | simpa using this
    rw[hrun,Oper.uponIn_round]
    refine⟨Bo _,O8 (hround.mono ?_)⟩
    intro e w' he
    cases e with
    | returned v=>obtain⟨σ2,hk2,_,g2,_,R3⟩:=he;exact fin σ2 g2 v w' hk2 R3
    | panicked ch=>exact he
    | outgrown=>exact he
   ·exact hk.elim
  ·rw[if_neg (by simp[hw])]
   obtain⟨hd,hk⟩:=E6.1 hk
   refine⟨fun f _=>B9 _ f,?_⟩
   refine CM hti h1 hQ hP r (i+1) _ _ w hr hk ?_
   obtain⟨g,R'⟩:=R'
   rw[CU]
   exact⟨g,(R'.put hd (v:=.t []) ⟨#[],rfl,rfl,by simp⟩).AW (fun n hn=>by omega)⟩
def D9 (C:Cx) (dr:LB):Prop:=∀(id:Nat) (ops:Array Oper) (σ:St) (K:St→Prop) (Q:Exit→Act→World→Prop) (a:Act) (w:World),
 (∀σ a w,K σ→BX C σ a w→Q .normal a w)→(∀v0 s h nx a w,C.M.pn v0 s h nx→Rel C (fun n=>nx≤n) (AH s) (AK h) a w→Q (.panic [{v:=v0,recovered:=false}]) a w)→dr ops σ K→BX C σ a w→(Code.region id ops true).wpIn (A7 C.ro) 0 C.P Q a w
theorem least {p:Nat→Prop}(h:∃n,p n):∃n,p n∧∀m,p m→n≤m:=by
 obtain⟨n,hn⟩:=h
 induction n using Nat.strongRecOn with
 | _ n ih=>
  by_cases hx:∃m,m<n∧p m
  ·obtain⟨m,hm,hp⟩:=hx
   exact ih m hm hp
  ·exact⟨n,hn,fun m hp=>Nat.le_of_not_lt (fun hlt=>hx ⟨m,hlt,hp⟩)⟩
theorem TB {P:Program}{a:Act}{w:World}{g:Operand}{l n:Nat}{BD:Array Value}{fn:Func}{body:Code}(hf:a.eval g= .func (.func n) #[] BD) (hfn:P.funcs[n]?=some fn) (hb:fn.body=some body) (hname:(fn.name== "runtime.NumGoroutine")=false):
  ∃d,(resolve a.eval (rangeCall g l) 0).run P w= .ok d w∧(invoke d.target d.args).run P w= .ok (.enter n (#[.func (.yield l) #[] #[]]++BD)) w:=by
 have hn':¬fn.name= "runtime.NumGoroutine" :=by simpa using hname
 have he:a.eval (.const (.func (.yield l) #[] #[]))= .func (.yield l) #[] #[]:=rfl
 refine⟨⟨.fn (.func n) BD,#[.func (.yield l) #[] #[]]⟩,?_,?_⟩
 ·simp[resolve,rangeCall,hf,he,Deferred.ofValue]
 ·simp[invoke,callFunc,hfn,hb,hn']
theorem TC {F:Nat→Prop}{s:AN}{h:AE}{g:AL}{a:Act}{w:World}(R:AR C F s h g a w) {n:Nat}(hn:F n) (ps:Array Tmp) (assign body:Code) (sl:List (Nat×AV)) (hsl:∀t,AH sl t= .u∨AH sl t=s t) (fn:FuncId) (hcl:C.M.cl=false):
  ∃l mark w1 C2 g2,(Instr.enterLoop fn a.tmps ps assign body (A7 C.ro).round).run C.P w= .ok (l,mark) w1∧DV C C2∧C2.w0.heap.size≤l∧g2 (.loc n)= .map (some l)∧
   AR C2 (fun k=>F k∧k≠n) s (AJ h (.loc n) (.rnd (fun _=>⟨ps,assign,body,C.nt⟩) sl)) g2 {a with defers:=mark++a.defers} w1∧(∀v,Au w1 (Al (zone g2 (AJ h (.loc n) (.rnd (fun _=>⟨ps,assign,body,C.nt⟩) sl))) C2.X) g2 (AJ h (.loc n) (.rnd (fun _=>⟨ps,assign,body,C.nt⟩) sl)) (.yl (.loc n)) v↔v= .func (.yield l) #[] #[])∧
   (∀i,i≠ .loc n→g2 i=g i):=by
 rw[O7]
 have hX:∀b o,C.X b o→b<w.heap.size:=fun b o hx=>Nat.lt_of_lt_of_le (R.xs b o hx) R.frame.size
 have slr:∀{Z:Ad} {w:World} {g:AL} {h:AE} {v:Value} {t:Nat},An w Z g h (s t) v→An w Z g h (AH sl t) v:=by
  intro Z w g h v t hr
  rcases hsl t with e | e
  ·rw[e];trivial
  ·rw[e];exact hr
 have yl:∀{g2:AL} {w:World} {Z:Ad} {h:AE} {l:Nat} (_:g2 (.loc n)= .map (some l)) (v:Value),Au w Z g2 h (.yl (.loc n)) v↔v= .func (.yield l) #[] #[]:=by
  intro g2 w Z h l e v
  constructor
  ·rintro⟨l',h1,h2⟩
   rw[e]at h1;cases h1;exact h2
  ·intro h;exact⟨l,e,h⟩
 cases hro:C.ro with
 | none=>
  let wD:=w.alloc (.deferred (some []))
  let X2:Ad:=fun b o=>C.X b o∨b=w.heap.size
  have hsz:wD.heap.size=w.heap.size+1:=by simp[wD]
  have hinv:C.M.I.at wD (Al (zone g h) X2):=by
   obtain⟨i1,i2⟩:=R.inv
   refine⟨C.M.I.same (fun b hb=>Below.heap_alloc w _ b (i2 b hb).1) i1,fun b hb=>⟨by have:=(i2 b hb).1;omega,?_⟩⟩
   rintro o (hz | hz | hz)
   ·exact (i2 b hb).2 o (.inl hz)
   ·exact (i2 b hb).2 o (.inr hz)
   ·have:=(i2 b hb).1;omega
  have hD:∀r∈w.heap.size::C.D,wD.heap[r]?=some (.deferred (some []))∧∀o,¬zone g h r o:=by
   intro r hr
   rcases List.mem_cons.1 hr with rfl | hr
   ·refine⟨heap_alloc_new w _,?_⟩
    rintro o ⟨i,ob,hi,hz⟩
    have:=(R.heap.objs i ob hi).lt hz.F7
    omega
   ·obtain⟨k1,k2⟩:=C.hD r hr
    obtain⟨k3,k4⟩:=R.kept k1 k2
    exact⟨(Below.heap_alloc w _ r (Array.getElem?_eq_some_iff.1 k3).1).trans k3,k4⟩
  have hDn:(w.heap.size::C.D).Nodup:=by
   refine List.nodup_cons.2 ⟨fun hm=>?_,C.hDn⟩
   have:=(Array.getElem?_eq_some_iff.1 (C.hD _ hm).1).1
   have:=R.frame.size
   omega
  let C2:Cx:={M:=C.M,nt:=C.nt,w0:=wD,Z0:=zone g h,X:=X2,g0:=g,hinv:=hinv,ro:=C.ro,D:=w.heap.size::C.D,hro:=fun l hl=>(by rw[hro]at hl;cases hl),hD:=hD,hDn:=hDn,hcl:=C.hcl}
  have A:El (fun _=>False) w wD:=⟨rfl,rfl,rfl,by omega,fun b hb _=>Below.heap_alloc w _ b hb⟩
  have R2:AR C2 F s h g {a with defers:=DJ w.heap.size::a.defers} wD:=by
   refine R.SS A rfl rfl (fun i o hi=>.inl hi) (fun b o hb=>hb.elim) (fun i ob b hi hb hB=>hB) ?_ ?_ ?_ rfl (fun b o hz=>hz) (fun j=>.refl _) rfl ⟨fun _=>by show _=DJ w.heap.size::C.D.map DJ;rw[←R.marks hcl],fun h=>by rw[hcl]at h;cases h⟩ (fun k hk=>(R.free k hk).2)
   ·rintro b o (hx | hx)
    ·exact .inl (.inr hx)
    ·exact .inr (by omega)
   ·rintro b o (hx | hx)
    ·have:=hX b o hx;omega
    ·omega
   ·rintro i ob b o hi hb (hx | hx)
    ·exact R.heap.apart i ob b o hi hb hx
    ·have:=(R.heap.objs i ob hi).lt hb;omega
  have L:DV C C2:=by
   refine⟨rfl,rfl,rfl,fun b o hx=>.inl hx,?_,fun b o hz=>?_,fun j=>R.ext j,fun hn=>absurd hro hn,[w.heap.size],rfl,?_⟩
   ·exact R.frame.then ⟨rfl,rfl,rfl,(by show w.heap.size≤wD.heap.size;omega),fun b hb _=>Below.heap_alloc w _ b hb,fun b o u hu _=>A.cell hu (fun h=>h)⟩ (Z':=fun _ _=>False) (fun _ _ h=>h.elim)
   ·obtain⟨i,ob,hi,h1⟩:=hz
    exact R.within i ob b o hi h1
   ·intro r hr
    simp at hr
    subst hr
    exact⟨R.frame.size,fun o=>.inr rfl⟩
  have R3:=R2.UP hn {state:=.ready,pending:=none,fn:=fn,tmps:=a.tmps,params:=ps,assign:=assign,body:=body,defers:=w.heap.size} (fun _=>⟨ps,assign,body,C.nt⟩) sl rfl rfl rfl rfl rfl R.size (fun t=>slr (R2.slots t))
  refine⟨w.heap.size+1,[DJ w.heap.size],_,C2,_,run_enterLoop_outer fn a.tmps ps assign body,L,(by show wD.heap.size≤_;omega),?_,R3,yl ?_,fun i hi=>by simp[Ah,hi]⟩
  ·simp[Ah,hsz]
  ·simp[Ah,hsz]
 | some l0=>
  obtain⟨⟨L0,hL0⟩,hz0⟩:=C.hro l0 hro
  obtain⟨k1,k2⟩:=R.kept hL0 hz0
  have R3:=R.UP hn {state:=.ready,pending:=none,fn:=fn,tmps:=a.tmps,params:=ps,assign:=assign,body:=body,defers:=L0.defers} (fun _=>⟨ps,assign,body,C.nt⟩) sl rfl rfl rfl rfl rfl R.size (fun t=>slr (R.slots t))
  refine⟨w.heap.size,[],_,C,_,?_,DV.refl C,R.frame.size,?_,R3,yl ?_,fun i hi=>by simp[Ah,hi]⟩
  ·unfold Instr.enterLoop
   simp only[Sem.run_bind,run_getLoop k1,run_newObj_alloc,Result.andThen,Sem.run_pure,pure_bind]
  ·simp[Ah]
  ·simp[Ah]
theorem TD {F:Nat→Prop}{s:AN}{h:AE}{g:AL}{a:Act}{w:World}(R:AR C F s h g a w) {i:Id}{ob:AB}{l:Nat}{L:Loop}(hi:h i=some ob) (hob:∀o,BL (g i) ob l o) (hl:w.heap[l]?=some (.loop L)) (hnew:C.w0.heap.size≤l) (o':Obj):
  ∃C2,DV C C2∧AR C2 F s (AJ h i .gone) g a (w.putObj l o'):=by
 have hlt:l<w.heap.size:=(Array.getElem?_eq_some_iff.1 hl).1
 have hX:∀b o,C.X b o→b<w.heap.size:=fun b o hx=>Nat.lt_of_lt_of_le (R.xs b o hx) R.frame.size
 have hO:∀b,EM (g i) ob b→b=l∨True:=fun _ _=>.inr trivial
 have hgo:∀j o,AJ h i .gone j=some o→(h j=some o∧j≠i)∨o= .gone:=by
  intro j o hj
  by_cases e:j=i
  ·subst e;simp[AJ]at hj;exact .inr hj.symm
  ·simp[AJ,e]at hj;exact .inl ⟨hj,e⟩
 have zsub:∀b o,zone g (AJ h i .gone) b o→zone g h b o∧b≠l:=by
  rintro b o ⟨j,ob',hj,hz⟩
  rcases hgo j ob' hj with⟨h1,h2⟩ | rfl
  ·refine⟨⟨j,ob',h1,hz⟩,?_⟩
   rintro rfl
   exact h2 (R.heap.sep j i ob' ob b h1 hi hz.F7 (hob o).F7)
  ·exact hz.elim
 have kept:∀{b:Nat} {o:Obj},C.w0.heap[b]?=some o→(∀p,¬C.Z0 b p)→(w.putObj l o').heap[b]?=some o∧∀p,¬zone g (AJ h i .gone) b p:=by
  intro b o hb hz
  obtain⟨k1,k2⟩:=R.kept hb hz
  have:b<C.w0.heap.size:=(Array.getElem?_eq_some_iff.1 hb).1
  exact⟨(World.putObj_heap_other (by omega)).trans k1,fun p hp=>k2 p (zsub b p hp).1⟩
 have hinv:C.M.I.at (w.putObj l o') (Al (zone g (AJ h i .gone)) C.X):=by
  obtain⟨i1,i2⟩:=R.inv
  have ne:∀b,C.M.I.blocks b→b≠l:=by
   rintro b hb rfl
   exact (i2 b hb).2 0 (.inl ⟨i,ob,hi,hob 0⟩)
  refine⟨C.M.I.same (fun b hb=>World.putObj_heap_other (ne b hb)) i1,fun b hb=>⟨by simpa using (i2 b hb).1,fun o hz=>(i2 b hb).2 o (hz.imp (fun h=>(zsub b o h).1) id)⟩⟩
 have hro:∀l0,C.ro=some l0→(∃L0,(w.putObj l o').heap[l0]?=some (.loop L0))∧∀p,¬zone g (AJ h i .gone) l0 p:=by
  intro l0 hl0
  obtain⟨⟨L0,k1⟩,k2⟩:=C.hro l0 hl0
  exact⟨⟨L0,(kept k1 k2).1⟩,(kept k1 k2).2⟩
 let C2:Cx:={M:=C.M,nt:=C.nt,w0:=w.putObj l o',Z0:=zone g (AJ h i .gone),X:=C.X,g0:=g,hinv:=hinv,ro:=C.ro,D:=C.D,hro:=hro,hD:=fun r hr=>kept (C.hD r hr).1 (C.hD r hr).2,hDn:=C.hDn,hcl:=C.hcl}
 have A:El (fun b=>b=l) w (w.putObj l o'):=⟨rfl,rfl,rfl,by simp,fun b _ hb=>World.putObj_heap_other hb⟩
 refine⟨C2,⟨rfl,rfl,rfl,fun _ _ h=>h,?_,fun b o hz=>?_,fun j=>R.ext j,fun _=>rfl,[],rfl,by simp⟩,?_⟩
 ·refine R.frame.then (Z':=fun b _=>b=l) ⟨rfl,rfl,rfl,Nat.le_of_eq World.putObj_size.symm,fun b _ hb=>World.putObj_heap_other (fun e=>hb 0 e),fun b o u hu hb=>A.cell hu hb⟩ ?_
  rintro p o rfl
  exact .inr hnew
 ·obtain⟨j,ob',hj,h1⟩:=(zsub b o hz).1
  exact R.within j ob' b o hj h1
 ·refine R.SS A rfl rfl (fun j o hj=>(hgo j o hj).imp (·.1) id) ?_ ?_ (fun b o hx=>.inl (.inr hx)) (fun b o hx=>by simpa using hX b o hx) ?_ rfl (fun b o hz=>hz) (fun j=>.refl _) rfl ⟨R.marks,fun _=>rfl⟩ (fun k hk=>?_)
  ·rintro b o rfl;exact .inl ⟨i,ob,hi,hob o⟩
  ·rintro j ob' b hj hb rfl
   obtain⟨p,hp⟩:=hb.zone
   exact (zsub b p ⟨j,ob',hj,hp⟩).2 rfl
  ·intro j ob' b o hj hb hx
   rcases hgo j ob' hj with⟨h1,_⟩ | rfl
   ·exact R.heap.apart j ob' b o h1 hb hx
   ·exact hb.elim
  ·have:=(R.free k hk).2
   have hne:Id.loc k≠i:=by rintro rfl;rw[this]at hi;cases hi
   simp[AJ,hne,this]
theorem TE {σ:St}{K:B5→St→Prop}{a:Act}{w:World}{gop:Operand}{ps:Array Tmp}{assign body:Code}(hk:Up C.M ti C.nt gop ps assign body σ K) (R:BX C σ a w) (hcl:C.M.cl=false):
  (Code.rangeFunc gop ps assign body).wpIn (A7 C.ro) 0 C.P (SX C K) a w:=by
 obtain⟨σ1,hwk,hk⟩:=hk
 obtain⟨g,R1⟩:=hwk C a w R
 have hf:=AI ti 0 gop R1 (s:=AH σ1.slots) (fun _ _=>rfl)
 split at hk
 rotate_left
 ·exact hk.elim
 rename_i n cap hop
 rw[hop]at hf
 obtain⟨hfv,hcap⟩:=hf
 obtain⟨sl,hsl,hk⟩:=hk
 refine wpIn_rangeFunc fun fn _=>?_
 obtain⟨l,mark,w1,C2,g2,hent,hle,hlnew,hgl,R2,hyl,hg2⟩:=TC R1 (n:=σ1.next) (Nat.le_refl _) ps assign body sl hsl fn hcl
 have hcapne:∀i∈cap,i≠ .loc σ1.next:=by
  rintro i hi rfl
  obtain⟨b,hb⟩:=hcap _ hi
  rw[(R1.free σ1.next (Nat.le_refl _)).1]at hb
  simp[undef]at hb
 rw[←hle.M]at hk
 have R2':AR C2 (fun k=>σ1.next≤k∧k≠σ1.next) (AH σ1.slots) (AK (CR σ1.heap (.loc σ1.next) (.rnd (fun _=>⟨ps,assign,body,C.nt⟩) sl))) g2 {a with defers:=mark++a.defers} w1:=by
  rw[Bh];exact R2
 have hsound:=J0 (C:=C2) (Q:=SX C K) (vals:=#[.func (.yield l) #[] #[]]++(cap.map (fun i=>Bu (g i) 0)).toArray) (σ:=⟨σ1.slots,CR σ1.heap (.loc σ1.next) (.rnd (fun _=>⟨ps,assign,body,C.nt⟩) sl),σ1.next+64⟩) R2' hk (fun k hk=>⟨by omega,by omega⟩) (by simp) (by simp[Nat.add_comm]) (fun j x v hx hv=>by
  match j with
  | 0=>
   simp at hx hv
   subst hx;subst hv
   have:=(hyl (.func (.yield l) #[] #[])).2 rfl
   rw[←Bh]at this
   exact this
  | j+1=>
   simp only[List.getElem?_cons_succ,List.getElem?_map,Option.map_eq_some_iff]at hx
   obtain⟨i,hi,rfl⟩:=hx
   rw[Array.getElem?_append_right (by simp)]at hv
   simp only[List.size_toArray,List.length_cons,List.length_nil,Nat.zero_add,Nat.add_sub_cancel,List.getElem?_toArray,List.getElem?_map,Option.map_eq_some_iff]at hv
   obtain⟨i',hi',rfl⟩:=hv
   rw[hi]at hi'
   obtain rfl:i=i':=by simpa using hi'
   obtain⟨b,hb⟩:=hcap i (List.mem_of_getElem? hi)
   have e:=hg2 i (hcapne i (List.mem_of_getElem? hi))
   exact⟨⟨b,by rw[e];exact hb⟩,by rw[e]⟩)
 obtain⟨⟨fnc,cbody,hfn,hb,hname⟩,hcall⟩:=hsound
 have hP:C2.P=C.P:=by show C2.M.P=C.M.P;rw[hle.M]
 rw[hP]at hfn hcall
 obtain⟨d,hres,hinv⟩:=TB (P:=C.P) (w:=w1) (l:=l) hfv hfn hb hname
 refine⟨l,mark,w1,d,w1,n,_,w1,hent,hres,fun f _=>B9 _ f,hinv,fun h=>absurd (Bo C.ro h) (by omega),CL (hcall.mono ?_)⟩
 intro e w3 he
 cases e with
 | panicked ch=>exact he
 | outgrown=>exact he
 | returned v=>
  obtain⟨σ2,hk2,hnx,g3,hg3,R3⟩:=he
  have hg3l:g3 (.loc σ1.next)= .map (some l):=by rw[hg3 _ _ hgl];exact hgl
  have ha:(({a with defers:=mark++a.defers}:Act).put none v)={a with defers:=mark++a.defers}:=rfl
  rw[ha]at R3
  have leave:∀(ob:AB) (L:Loop),AK σ2.heap (.loc σ1.next)=some ob→(∀b o,BL (g3 (.loc σ1.next)) ob b o↔BC (g3 (.loc σ1.next)) b)→w3.heap[l]?=some (.loop L)→L.state≠ .busy→
    ∃C3 w4,DV C C3∧(Instr.endLoop l).run C.P w3= .ok L.pending w4∧BX C3 ⟨σ2.slots,CR σ2.heap (.loc σ1.next) .gone,σ2.next⟩ {a with defers:=mark++a.defers} w4:=by
   intro ob L ho hz hl hb
   obtain⟨C3,hle3,R4⟩:=TD R3 ho (l:=l) (L:=L) (fun o=>(hz l o).2 (by rw[hg3l];exact .inl rfl)) hl hlnew (.loop {L with state:=.exhausted})
   refine⟨C3,_,hle.trans hle3,run_endLoop hl hb,g3,?_⟩
   rw[Bh]
   refine R4.AW fun k hk=>?_
   have hk:σ2.next≤k:=hk
   rw[hnx]at hk
   have hk:σ1.next+64≤k:=hk
   exact⟨⟨by omega,by omega⟩,by omega⟩
  show rangePost _ _ _ _ _ _ _ _
  unfold rangePost
  simp only[]
  split at hk2
  ·rename_i r2 sl2 ho
   obtain⟨l',L,e1,e2,e3,e4,_⟩:=R3.heap.objs _ _ ho
   rw[hg3l]at e1
   cases e1
   obtain⟨C3,w4,k1,k2,k3⟩:=leave _ L ho (fun _ _=>Iff.rfl) e2 (by rw[e3];simp)
   exact⟨_,w4,k2,by rw[e4];exact⟨C3,k1,_,hk2,k3⟩⟩
  ·rename_i j ho
   obtain⟨l',L,e1,e2,e3,e4⟩:=R3.heap.objs _ _ ho
   rw[hg3l]at e1
   cases e1
   obtain⟨C3,w4,k1,k2,k3⟩:=leave _ L ho (fun _ _=>Iff.rfl) e2 (by rw[e3];simp)
   refine⟨_,w4,k2,?_⟩
   rw[e4]
   cases j with
   | none=>exact wpIn_ret ⟨C3,k1,_,hk2,k3⟩
   | some id=>exact wpIn_exit ⟨C3,k1,_,hk2,k3⟩
  ·exact hk2.elim
end
def eR (F:Fence) (n:Nat) (P:Program) (c:Code) (Q:Exit→Act→World→Prop) (a:Act) (w:World):Prop:=
 ∃(J:Act→World→Prop) (μ:Act→World→Nat),J a w∧∀a w,J a w→c.wpIn F n P (Exit.then (fun a' w'=>J a' w'∧μ a' w'<μ a w) Q) a w
def Mb (F:Fence) (n:Nat) (P:Program) (c:Code) (Q:Exit→Act→World→Prop):Nat→Act→World→Prop
 | 0,a,w=>eR F n P c Q a w
 | m+1,a,w=>c.wpIn F n P (Exit.then (Mb F n P c Q m) Q) a w
theorem J2 {F:Fence}{n:Nat}{P:Program}{Q:Exit→Act→World→Prop}{a:Act}{w:World}{c:Code}(m:Nat) (h:Mb F n P c Q m a w):(Code.loop c).wpIn F n P Q a w:=by
 intro b k cs hro hb hr
 have base:∀(J:Act→World→Prop) (μ:Act→World→Nat),(∀a w,J a w→c.wpIn F n P (Exit.then (fun a' w'=>J a' w'∧μ a' w'<μ a w) Q) a w)→∀j a w,μ a w=j→J a w→
   ∃e a' w',Q e a' w'∧ArrivesIn (Machine.fenced P F) P (lone (b.atR a (.code c::.inLoop c::k)) cs w) b k cs e a' w':=by
  intro J μ round j
  induction j using Nat.strongRecOn with
  | _ j ih=>
   intro a w hn hI
   obtain⟨e,a₁,w₁,hq,harr⟩:=round a w hI b (.inLoop c::k) cs hro hb hr
   cases e with
   | normal=>
    obtain⟨hI₁,hlt⟩:=hq
    obtain⟨e₂,a₂,w₂,hq₂,harr₂⟩:=ih (μ a₁ w₁) (hn▸hlt) a₁ w₁ rfl hI₁
    exact⟨e₂,a₂,w₂,hq₂,.of_steps (StepsIn.trans harr (.one (fenced_calm hb hr rfl) stepR_inLoop)) harr₂⟩
   | exit id=>exact⟨_,a₁,w₁,hq,.pass (x:=.inLoop c) rfl (fun _ _=>.inl (by simp)) harr⟩
   | goto l=>exact⟨_,a₁,w₁,hq,.pass (x:=.inLoop c) rfl (fun _ _=>.inl (by simp)) harr⟩
   | ret=>exact⟨_,a₁,w₁,hq,.pass (x:=.inLoop c) rfl (fun _ _=>.inl (by simp)) harr⟩
   | panic ch=>exact⟨_,a₁,w₁,hq,.pass (x:=.inLoop c) rfl (fun _ _=>.inl (by simp)) harr⟩
   | outgrown=>exact⟨_,a₁,w₁,hq,.pass (x:=.inLoop c) rfl (fun _ _=>.inl (by simp)) harr⟩
 have key:∀m a w,Mb F n P c Q m a w→
   ∃e a' w',Q e a' w'∧ArrivesIn (Machine.fenced P F) P (lone (b.atR a (.code c::.inLoop c::k)) cs w) b k cs e a' w':=by
  intro m
  induction m with
  | zero=>
   rintro a w ⟨J,μ,h0,hr⟩
   exact base J μ hr _ a w rfl h0
  | succ m ih=>
   intro a w h
   obtain⟨e,a₁,w₁,hq,harr⟩:=h b (.inLoop c::k) cs hro hb hr
   cases e with
   | normal=>
    obtain⟨e₂,a₂,w₂,hq₂,harr₂⟩:=ih a₁ w₁ hq
    exact⟨e₂,a₂,w₂,hq₂,.of_steps (StepsIn.trans harr (.one (fenced_calm hb hr rfl) stepR_inLoop)) harr₂⟩
   | exit id=>exact⟨_,a₁,w₁,hq,.pass (x:=.inLoop c) rfl (fun _ _=>.inl (by simp)) harr⟩
   | goto l=>exact⟨_,a₁,w₁,hq,.pass (x:=.inLoop c) rfl (fun _ _=>.inl (by simp)) harr⟩
   | ret=>exact⟨_,a₁,w₁,hq,.pass (x:=.inLoop c) rfl (fun _ _=>.inl (by simp)) harr⟩
   | panic ch=>exact⟨_,a₁,w₁,hq,.pass (x:=.inLoop c) rfl (fun _ _=>.inl (by simp)) harr⟩
   | outgrown=>exact⟨_,a₁,w₁,hq,.pass (x:=.inLoop c) rfl (fun _ _=>.inl (by simp)) harr⟩
 obtain⟨e,a',w',hq,harr⟩:=key m a w h
 exact⟨e,a',w',hq,.of_steps (.one (fenced_calm hb hr rfl) stepR_loop) harr⟩
def Cc:Code→Bool
 | .seq a b=>Cc a&&Cc b
 | .cond _ a b=>Cc a&&Cc b
 | .block _ c=>Cc c
 | .loop c=>Cc c
 | .rangeFunc ..=>false
 | _=>true
theorem BS {ti:Types}{dr:LB}{M:AY}{nt:Nat}{ro:Option Nat}(hti:Ao M.P ti) (h1:BB ti) (hdr:∀C:Cx,C.M=M→C.nt=nt→D9 C dr):∀(c:Code) (σ:St) (K:B5→St→Prop) (C:Cx) (a:Act) (w:World),C.M=M→C.nt=nt→C.ro=ro→(M.cl=true→Cc c=true)→
  exec M ti nt dr c σ K→BX C σ a w→c.wpIn (A7 ro) 0 M.P (SX C K) a w
 | .skip,σ,K,C,a,w,_,_,_,_,hk,R=>wpIn_skip ⟨C,.refl C,σ,hk,R⟩
 | .region id ops draw,σ,K,C,a,w,hM,hn,hr,hnr,hk,R=>by
  subst hM;subst hn;subst hr
  cases draw with
  | false=>
   refine wpIn_region ?_
   have:=CM (Q:=SX C K) hti h1 (fun σ a w hk R=>⟨C,.refl C,σ,hk,R⟩) (fun v0 s h nx a w hpn R=>⟨C,.refl C,v0,s,h,nx,hpn,rfl,R⟩) ops.toList 0 σ a w rfl hk (R.AW (fun n hn=>by omega))
   simpa [List.range_eq_range'] using this
  | true=>exact hdr C rfl rfl id ops σ _ (SX C K) a w (fun σ a w hk R=>⟨C,.refl C,σ,hk,R⟩) (fun v0 s h nx a w hpn R=>⟨C,.refl C,v0,s,h,nx,hpn,rfl,R⟩) hk R
 | .seq x y,σ,K,C,a,w,hM,hn,hr,hnr,hk,R=>by
  rcases (M.lock_iff _).1 hk with hk | ⟨I,hk,hb⟩
  ·refine wpIn_seq (wpIn_mono (BS hti h1 hdr x σ _ C a w hM hn hr (fun h=>(Bool.and_eq_true_iff.1 (hnr h)).1) hk R) ?_)
   intro e a' w' hq
   cases e with
   | normal=>
    obtain⟨C',hle,σ',hk',R'⟩:=hq
    exact wpIn_mono (BS hti h1 hdr y σ' K C' a' w' (hle.M.trans hM) (hle.nt.trans hn) (hle.ro.trans hr) (fun h=>(Bool.and_eq_true_iff.1 (hnr h)).2) hk' R') fun e a w q=>q.mono hle
   | exit id=>exact hq
   | ret=>exact hq
   | goto l=>exact hq
   | panic ch=>exact hq
   | outgrown=>exact hq
  ·refine wpIn_seq (wpIn_mono (BS hti h1 hdr x σ _ C a w hM hn hr (fun h=>(Bool.and_eq_true_iff.1 (hnr h)).1) hk R) ?_)
   intro e a' w' hq
   cases e with
   | normal=>
    obtain⟨C',hle,σ',⟨σ2,hw,hi⟩,R'⟩:=hq
    exact wpIn_mono (BS hti h1 hdr y σ2 K C' a' w' (hle.M.trans hM) (hle.nt.trans hn) (hle.ro.trans hr) (fun h=>(Bool.and_eq_true_iff.1 (hnr h)).2) (hb σ2 hi) (hw _ _ _ R')) fun e a w q=>q.mono hle
   | exit id=>exact hq
   | ret=>exact hq
   | goto l=>exact hq
   | panic ch=>exact hq
   | outgrown=>exact hq
 | .cond c x y,σ,K,C,a,w,hM,hn,hr,hnr,hk,R=>by
  obtain⟨q,hq,hk⟩:=PR.1 hk
  have hc:a.eval c= .bool q:=by
   obtain⟨g,R'⟩:=R
   have:=AI ti 0 c R' (s:=AH σ.slots) (fun _ _=>rfl)
   rw[hq]at this
   exact O1 this
  refine wpIn_cond hc ?_
  cases q with
  | true=>exact BS hti h1 hdr x σ K C a w hM hn hr (fun h=>(Bool.and_eq_true_iff.1 (hnr h)).1) hk R
  | false=>exact BS hti h1 hdr y σ K C a w hM hn hr (fun h=>(Bool.and_eq_true_iff.1 (hnr h)).2) hk R
 | .block id c,σ,K,C,a,w,hM,hn,hr,hnr,hk,R=>by
  refine wpIn_block (wpIn_mono (BS hti h1 hdr c σ _ C a w hM hn hr hnr hk R) ?_)
  intro e a' w' hq
  cases e with
  | normal=>exact hq
  | exit id'=>
   obtain⟨C',hle,σ',hk',R'⟩:=hq
   show if id'=id then SX C K .normal a' w' else SX C K (.exit id') a' w'
   revert hk'
   simp only[]
   cases hb:Nat.beq id' id with
   | true=>
    intro hk'
    rw[if_pos (Nat.eq_of_beq_eq_true hb)]
    exact⟨C',hle,σ',hk',R'⟩
   | false=>
    intro hk'
    rw[if_neg (Nat.ne_of_beq_eq_false hb)]
    exact⟨C',hle,σ',hk',R'⟩
  | ret=>exact hq
  | goto l=>exact hq
  | panic ch=>exact hq
  | outgrown=>exact hq
 | .loop c,σ,K,C,a,w,hM,hn,hr,hnr,hk,R=>by
  classical
  have lp:∀σ C' a w,DV C C'→S8 (fun σ K=>exec M ti nt dr c σ K) σ K→BX C' σ a w→eR (A7 ro) 0 M.P c (SX C K) a w:=by
   rintro σ C' a w hle ⟨I,m,⟨σ0,hw,hI⟩,hround⟩ R
   let J:Act→World→Prop:=fun a w=>∃n σ C',DV C C'∧I n σ∧BX C' σ a w
   let μ:Act→World→Nat:=fun a w=>if h:∃n σ C',DV C C'∧I n σ∧BX C' σ a w then Classical.choose (least h)else 0
   have hμ:∀a w n σ C',DV C C'→I n σ→BX C' σ a w→μ a w≤n:=by
    intro a w n σ C' hle hi hr
    have hh:∃n σ C',DV C C'∧I n σ∧BX C' σ a w:=⟨n,σ,C',hle,hi,hr⟩
    show (if h:∃n σ C',DV C C'∧I n σ∧BX C' σ a w then Classical.choose (least h)else 0)≤n
    rw[dif_pos hh]
    exact (Classical.choose_spec (least hh)).2 n ⟨σ,C',hle,hi,hr⟩
   refine⟨J,μ,⟨m,σ0,C',hle,hI,hw _ _ _ R⟩,?_⟩
   rintro a w ⟨n0,σ1,C1,hle1,hi0,hr0⟩
   have hh:∃n σ C',DV C C'∧I n σ∧BX C' σ a w:=⟨n0,σ1,C1,hle1,hi0,hr0⟩
   obtain⟨σ2,C2,hle2,hi,hr2⟩:=(Classical.choose_spec (least hh)).1
   have hμa:μ a w=Classical.choose (least hh):=dif_pos hh
   refine wpIn_mono (BS hti h1 hdr c σ2 _ C2 a w (hle2.M.trans hM) (hle2.nt.trans hn) (hle2.ro.trans hr) hnr (hround _ σ2 hi) hr2) ?_
   intro e a' w' hq
   cases e with
   | normal=>
    obtain⟨C3,hle3,σ',⟨n',σ3,hlt,hwk,hi3⟩,R'⟩:=hq
    exact⟨⟨n',σ3,C3,hle2.trans hle3,hi3,hwk _ _ _ R'⟩,by
     have:=hμ a' w' n' σ3 C3 (hle2.trans hle3) hi3 (hwk _ _ _ R')
     omega⟩
   | exit id=>exact SX.mono hle2 hq
   | ret=>exact SX.mono hle2 hq
   | goto l=>exact hq
   | panic ch=>exact SX.mono hle2 hq
   | outgrown=>exact hq
  have key:∀n σ C' a w,DV C C'→IW M (fun σ K=>exec M ti nt dr c σ K) K n σ→BX C' σ a w→Mb (A7 ro) 0 M.P c (SX C K) n a w:=by
   intro n
   induction n with
   | zero=>intro σ C' a w hle h R;exact lp σ C' a w hle ((M.lock_iff _).1 h) R
   | succ n ih=>
    intro σ C' a w hle h R
    refine wpIn_mono (BS hti h1 hdr c σ _ C' a w (hle.M.trans hM) (hle.nt.trans hn) (hle.ro.trans hr) hnr h R) ?_
    intro e a' w' hq
    cases e with
    | normal=>
     obtain⟨C2,hle2,σ',h',R'⟩:=hq
     exact ih σ' C2 a' w' (hle.trans hle2) h' R'
    | exit id=>exact SX.mono hle hq
    | ret=>exact SX.mono hle hq
    | goto l=>exact hq
    | panic ch=>exact SX.mono hle hq
    | outgrown=>exact hq
  rcases (M.lock_iff _).1 hk with hk | ⟨n,hk⟩
  ·exact J2 0 (lp σ C a w (.refl C) hk R)
  ·exact J2 n (key n σ C a w (.refl C) hk R)
 | .exit id,σ,K,C,a,w,_,_,_,_,hk,R=>wpIn_exit ⟨C,.refl C,σ,hk,R⟩
 | .ret,σ,K,C,a,w,_,_,_,_,hk,R=>wpIn_ret ⟨C,.refl C,σ,hk,R⟩
 | .rangeFunc g ps assign body,σ,K,C,a,w,hM,hn,hr,hnr,hk,R=>by
  subst hM;subst hn;subst hr
  exact TE ((C.M.lock_iff _).1 hk) R (by cases h:C.M.cl with | false=>rfl | true=>exact absurd (hnr h) (by simp[Cc]))
 | .scope _,_,_,_,_,_,_,_,_,_,hk,_=>hk.elim
 | .label _,_,_,_,_,_,_,_,_,_,hk,_=>hk.elim
 | .goto _,_,_,_,_,_,_,_,_,_,hk,_=>hk.elim
 | .refuse _,_,_,_,_,_,_,_,_,_,hk,_=>hk.elim
end Go.AM
namespace Go.AM
open Go Go.RowKit
def J3 (n:Nat):Id→Bool
 | .loc k=>Nat.blt k n
 | .ext _=>true
def kV (n:Nat):FC→Bool
 | .p i=>J3 n i
 | _=>true
def eS (n:Nat):CV→Bool
 | .ptr i _=>J3 n i
 | .fn _ cap=>BP (J3 n) cap
 | .lst i _ _ _=>J3 n i
 | .sl i _=>J3 n i
 | .map i=>J3 n i
 | .ap i _ _ _ _=>J3 n i
 | .ow i=>J3 n i
 | .op i _ _ _=>J3 n i
 | .yl i=>J3 n i
 | .bm _ i=>J3 n i
 | .fz _ cs=>BP (kV n) cs
 | .fb i=>J3 n i
 | _=>true
def mX (n:Nat):V1→Bool
 | .d _=>true
 | .c x=>eS n x
 | .agg cs=>BP (eS n) cs
def cM (n:Nat):AV→Bool
 | .u=>true
 | .v x=>mX n x
 | .t xs=>BP (mX n) xs
 | .df _ cs _=>BP (kV n) cs
def Yf (n:Nat):AB→Bool
 | .cells cs=>BP (eS n) cs
 | .tok ..=>true
 | .map ..=>true
 | .arr cs1 _ _ _ cs2=>match BP (eS n) cs1 with
  | true=>BP (eS n) cs2
  | false=>false
 | .tree _ _ _ _ foc=>match foc with
  | some x=>BP (eS n) x.2
  | none=>true
 | .pmap _ _ _ _ foc=>match foc with
  | some x=>J3 n x.2
  | none=>true
 | .part ..=>true
 | .fnl _ cs _=>BP (kV n) cs
 | .gone=>true
 | .rnd _ sl=>BP (fun x=>cM n x.2) sl
 | .rndX _=>true
theorem B3 {α:Type}{f:α→α}{l:List α}(h:∀x∈l,f x=x):l.map f=l:=by
 induction l with
 | nil=>rfl
 | cons x l ih=>simp[h x (by simp),ih (fun y hy=>h y (by simp[hy]))]
section
variable {n N:Nat}
def low (n N:Nat):Id→Id
 | .loc k=>if k<n then .loc k else .loc N
 | .ext j=>.ext j
theorem CN {i:Id}(h:J3 n i=true):low n N i=i:=by
 cases i with
 | ext j=>rfl
 | loc k=>
  have:k<n:=by simpa [J3] using h
  simp[low,this]
theorem hG {c:FC}(h:kV n c=true):c.Ar (low n N)=c:=by
 cases c with
 | p i=>simp only[FC.Ar];rw[CN h]
 | d x=>rfl
 | h=>rfl
theorem Qy {cs:List FC}(h:BP (kV n) cs=true):cs.map (FC.Ar (low n N))=cs:=by
 rw[Az]at h
 exact B3 fun i hi=>hG (h i hi)
theorem LC {c:CV}(h:eS n c=true):c.Ar (low n N)=c:=by
 cases c<;>simp only[CV.Ar,eS]at h ⊢
 ·rw[CN h]
 ·congr 1
  rw[Az]at h
  exact B3 fun i hi=>CN (h i hi)
 ·rw[CN h]
 ·rw[CN h]
 ·rw[CN h]
 ·rw[CN h]
 ·rw[CN h]
 ·rw[CN h]
 ·rw[CN h]
 ·rw[CN h]
 ·rw[Qy h]
 ·rw[CN h]
theorem Yg {c:V1}(h:mX n c=true):c.Ar (low n N)=c:=by
 cases c<;>simp only[V1.Ar,mX]at h ⊢
 ·rw[LC h]
 ·congr 1
  rw[Az]at h
  exact B3 fun i hi=>LC (h i hi)
theorem Uq {c:AV}(h:cM n c=true):c.Ar (low n N)=c:=by
 cases c<;>simp only[AV.Ar,cM]at h ⊢
 ·rw[Yg h]
 ·congr 1
  rw[Az]at h
  exact B3 fun i hi=>Yg (h i hi)
 ·rw[Qy h]
theorem cN {c:AB}(h:Yf n c=true):c.Ar (low n N)=c:=by
 cases c<;>simp only[AB.Ar,Yf]at h ⊢
 ·congr 1
  rw[Az]at h
  exact B3 fun i hi=>LC (h i hi)
 ·split at h
  ·rename_i h1
   rw[Az]at h h1
   rw[B3 fun i hi=>LC (h1 i hi),B3 fun i hi=>LC (h i hi)]
  ·cases h
 ·congr 1
  split at h
  ·rw[Az]at h
   show some (_,List.map (CV.Ar (low n N)) _)=_
   rw[B3 (f:=CV.Ar (low n N)) fun i hi=>LC (h i hi)]
  ·rfl
 ·congr 1
  split at h
  ·show some (_,low n N _)=_
   rw[CN h]
  ·rfl
 ·rw[Qy h]
 ·congr 1
  rw[Az]at h
  refine B3 fun i hi=>?_
  show (i.1,i.2.Ar (low n N))=i
  rw[Uq (h i hi)]
end
def Part (σ σ':St):Prop:=
 (∀t,AH σ'.slots t= .u∨AH σ'.slots t=AH σ.slots t)∧(∀i o,AK σ'.heap i=some o→AK σ.heap i=some o)∧
 (∀t,cM σ'.next (AH σ'.slots t)=true)∧(∀i o,AK σ'.heap i=some o→J3 σ'.next i=true∧Yf σ'.next o=true)
theorem W8 {σ σ':St}(h:Part σ σ'):A8 σ σ':=by
 obtain⟨hs,hh,hb,ho⟩:=h
 rintro C a w ⟨g,R⟩
 let N:=max σ.next σ'.next
 let r:=low σ'.next N
 let g':AL:=fun i=>g (r i)
 have hN:=R.free N (Nat.le_max_left _ _)
 have hz:∀b o,zone g' (AK σ'.heap) b o→zone g (AK σ.heap) b o:=by
  rintro b o ⟨i,ob,hi,h1⟩
  refine⟨i,ob,hh i ob hi,?_⟩
  have:g' i=g i:=by show g (low _ _ i)=g i;rw[CN (ho i ob hi).1]
  rw[←this];exact h1
 have hzz:∀b o,Al (zone g' (AK σ'.heap)) C.X b o→Al (zone g (AK σ.heap)) C.X b o:=fun b o hx=>hx.imp (hz b o) id
 have ht:∀i n sz e,AK σ'.heap i=some (.tok n sz e)→AK σ.heap (r i)=some (.tok n sz e):=by
  intro i n sz e hi
  rw[show r i=i from CN (ho i _ hi).1]
  exact hh i _ hi
 have hw:∀i,isLive (AK σ'.heap i)=true→isLive (AK σ.heap (r i))=true:=by
  intro i hi
  cases hc:AK σ'.heap i with
  | none=>rw[hc]at hi;cases hi
  | some o=>
   rw[show r i=i from CN (ho i _ hc).1,hh i _ hc,←hc]
   exact hi
 have hdf:DH w (Al (zone g' (AK σ'.heap)) C.X) g' C.M.cl (AH σ'.slots DT) a.defers C.D:=by
  rcases hs DT with e | e
  ·rw[e];exact R.defers.un (by simp)
  ·have:=R.defers
   rw[←e,←Uq (N:=N) (hb DT)]at this
   exact DH.pull (r:=r) hzz (fun _=>rfl) this
 refine⟨g',R.size,hdf,fun t=>?_,⟨fun i o hi=>?_,fun i j oi oj b hi hj bi bj=>?_,fun i oi b o hi bi=>?_⟩,R.frame,fun j=>R.ext j,fun j ob b o hj hz'=>?_,R.xs,fun n hn=>⟨?_,?_⟩⟩
 ·rcases hs t with e | e
  ·rw[e];trivial
  ·have:=R.slots t
   rw[←e,←Uq (N:=N) (hb t)]at this
   exact An.pull (r:=r) hzz (fun _=>rfl) ht hw this
 ·have h1:=R.heap.objs i o (hh i o hi)
  rw[←cN (N:=N) (ho i o hi).2]at h1
  have:=BH.pull (r:=r) (g':=g') hzz (fun _=>rfl) ht hw h1
  rw[show g' i=g i from by show g (low _ _ i)=g i;rw[CN (ho i o hi).1]]
  exact this
 ·have e1:g' i=g i:=by show g (low _ _ i)=g i;rw[CN (ho i oi hi).1]
  have e2:g' j=g j:=by show g (low _ _ j)=g j;rw[CN (ho j oj hj).1]
  rw[e1]at bi
  rw[e2]at bj
  exact R.heap.sep i j oi oj b (hh i oi hi) (hh j oj hj) bi bj
 ·have e1:g' i=g i:=by show g (low _ _ i)=g i;rw[CN (ho i oi hi).1]
  rw[e1]at bi
  exact R.heap.apart i oi b o (hh i oi hi) bi
 ·have e1:g' j=g j:=by show g (low _ _ _)=_;rw[CN (ho _ ob hj).1]
  rw[e1]at hz'
  exact R.within j ob b o (hh _ ob hj) hz'
 ·have:¬n<σ'.next:=by omega
  show g (low _ _ (.loc n))=undef
  simp only[low,if_neg this]
  exact hN.1
 ·cases hc:AK σ'.heap (.loc n)with
  | none=>rfl
  | some o=>
   have:=(ho _ o hc).1
   simp[J3]at this
   omega
def Hg (l:List (Nat×AV)):List Nat→List (Nat×AV)
 | []=>[]
 | k::ks=>(k,AH l k)::Hg l ks
def L8 (l:List (Id×AB)):List Id→Option (List (Id×AB))
 | []=>some []
 | i::is=>match AK l i with
  | some o=>match L8 l is with
   | some r=>some ((i,o)::r)
   | none=>none
  | none=>none
def Fj (ks:List Nat) (is:List Id) (n:Nat) (σ:St) (K:St→Prop):Prop:=
 match L8 σ.heap is with
 | none=>False
 | some hp=>Ay (BP (fun x=>cM n x.2) (Hg σ.slots ks))<| Ay (BP (fun x:Id×AB=>match J3 n x.1 with | true=>Yf n x.2 | false=>false) hp)<|
   K ⟨Hg σ.slots ks,hp,n⟩
theorem Pm {l:List (Nat×AV)}{ks:List Nat}(t:Nat):AH (Hg l ks) t= .u∨AH (Hg l ks) t=AH l t:=by
 induction ks with
 | nil=>exact .inl rfl
 | cons k ks ih=>
  show AH ((k,AH l k)::Hg l ks) t=_∨AH ((k,AH l k)::Hg l ks) t=_
  rw[Ai]
  simp only[]
  split
  ·subst t;exact .inr rfl
  ·exact ih
theorem TF {p:AV→Bool}(hu:p .u=true) {l:List (Nat×AV)}(h:BP (fun x=>p x.2) l=true) (t:Nat):p (AH l t)=true:=by
 induction l with
 | nil=>exact hu
 | cons x l ih=>
  obtain⟨k,v⟩:=x
  rw[Az]at h
  rw[Ai]
  simp only[]
  split
  ·exact h (k,v) (by simp)
  ·exact ih (Az.2 fun x hx=>h x (by simp[hx]))
theorem IX {l:List (Id×AB)}:∀{is:List Id}{r:List (Id×AB)},L8 l is=some r→∀i o,AK r i=some o→AK l i=some o∧(i,o)∈r
 | [],r,h,i,o,hi=>by simp[L8]at h;subst h;simp[AK]at hi
 | j::is,r,h,i,o,hi=>by
  unfold L8 at h
  split at h
  ·rename_i o' ho
   split at h
   ·rename_i r' hr
    simp at h
    subst h
    rw[Cp]at hi
    simp only[AJ]at hi
    split at hi
    ·simp at hi
     subst hi
     subst i
     exact⟨ho,by simp⟩
    ·obtain⟨h1,h2⟩:=IX hr i o hi
     exact⟨h1,by simp[h2]⟩
   ·simp at h
  ·simp at h
theorem Gd {ks:List Nat}{is:List Id}{n:Nat}{σ:St}{K:St→Prop}(h:Fj ks is n σ K):∃σ',A8 σ σ'∧K σ':=by
 unfold Fj at h
 split at h
 ·exact h.elim
 ·rename_i hp hhp
  obtain⟨h1,h⟩:=AA.1 h
  obtain⟨h2,h⟩:=AA.1 h
  refine⟨_,W8 ⟨fun t=>Pm t,fun i o hi=>(IX hhp i o hi).1,fun t=>TF rfl h1 t,fun i o hi=>?_⟩,h⟩
  have:=Az.1 h2 _ (IX hhp i o hi).2
  simp only[]at this
  split at this
  ·rename_i hb;exact⟨hb,this⟩
  ·simp at this
end Go.AM
namespace Go.AM
open Go Go.RowKit
def Yh:CV→Value→Bool
 | .d (.int k n),.int k' m=>decide (k=k')&&decide (n=m)
 | .d (.bool b),.bool b'=>b==b'
 | .d (.str s),.string s'=>s.data.toList.isEmpty&&s'.data.toList.isEmpty
 | .nils _ _,.slice none 0 0=>true
 | .nilp,.pointer none=>true
 | .nilf,.nilFunc=>true
 | .nilm,.map none=>true
 | .un,.nilIface=>true
 | _,_=>false
def Pn:List CV→List Value→Bool
 | [],[]=>true
 | c::cs,v::vs=>Yh c v&&Pn cs vs
 | _,_=>false
def Good (P:Program) (t:TypeId) (x:TI):Prop:=
 P.underlying t=some x.desc∧(P.info? t).map (fun i=>(i.size,i.bytes,i.zero))=some (x.size,x.bytes,some x.zero)∧
 (Pn x.zc x.zero.cells.toList&&(Nat.beq x.zc.length x.size&&(AU x.desc || Nat.beq x.size 1)))=true
def BV (P:Program):List (Nat×TI)→Prop
 | []=>True
 | p::l=>Good P p.1 p.2∧BV P l
def Ge (P:Program):List (List (Nat×TI))→Prop
 | []=>True
 | p::l=>BV P p∧Ge P l
def assoc:List (Nat×TI)→Nat→Option TI
 | [],_=>none
 | (k,x)::l,t=>match Nat.beq k t with
  | true=>some x
  | false=>assoc l t
def nth {α:Type}:List (List α)→Nat→List α
 | [],_=>[]
 | x::l,n=>match n with
  | 0=>x
  | n+1=>nth l n
def Vy (l:List (List (Nat×TI))):Types:=fun t=>assoc (nth l (t / 16)) t
theorem Yi {c:CV}{v:Value}(h:Yh c v=true):SZ c v:=by
 unfold Yh at h
 split at h
 ·simp at h;exact h
 ·simpa [SZ] using h
 ·simp only[Bool.and_eq_true,List.isEmpty_iff]at h
  have e:∀s:ByteArray,s.data.toList=[]→s=ByteArray.empty:=by
   intro s hs
   apply ByteArray.ext
   apply Array.ext'
   rw[hs];rfl
  rw[e _ h.1,e _ h.2];rfl
 ·trivial
 ·trivial
 ·trivial
 ·trivial
 ·rfl
 ·simp at h
theorem TG:∀{cs:List CV}{vs:List Value},Pn cs vs=true→vs.length=cs.length∧∀(j:Nat) c u,cs[j]?=some c→vs[j]?=some u→SZ c u
 | [],[],_=>⟨rfl,by simp⟩
 | c::cs,v::vs,h=>by
  simp only[Pn,Bool.and_eq_true]at h
  obtain⟨h1,h2⟩:=TG h.2
  refine⟨by simp[h1],fun j c' u hc hu=>?_⟩
  match j with
  | 0=>simp at hc hu;subst hc;subst hu;exact Yi h.1
  | j+1=>simp at hc hu;exact h2 j c' u hc hu
 | [],_::_,h=>by simp[Pn]at h
 | _::_,[],h=>by simp[Pn]at h
theorem Np {P:Program}:∀{l:List (Nat×TI)}{t:Nat}{x:TI},BV P l→assoc l t=some x→Good P t x
 | [],t,x,_,h=>by simp[assoc]at h
 | (k,y)::l,t,x,hg,h=>by
  unfold assoc at h
  split at h
  ·rename_i hb
   simp at h
   subst h
   have:=Nat.eq_of_beq_eq_true hb
   subst this
   exact hg.1
  ·exact Np hg.2 h
theorem TH {P:Program}:∀{l:List (List (Nat×TI))}{n:Nat},Ge P l→BV P (nth l n)
 | [],_,_=>trivial
 | x::l,0,h=>h.1
 | x::l,n+1,h=>TH (l:=l) (n:=n) h.2
theorem Nq {P:Program}{l:List (List (Nat×TI))}(h:Ge P l) {t:Nat}{x:TI}(hx:Vy l t=some x):Good P t x:=Np (TH h) hx
theorem Yj {P:Program}{l:List (List (Nat×TI))}(h:Ge P l):Ao P (Vy l):=by
 intro t x hx
 obtain⟨h1,h2,h3⟩:=Nq h hx
 refine⟨h1,?_⟩
 simp only[Option.map_eq_some_iff]at h2
 obtain⟨i,hi,he⟩:=h2
 simp only[Prod.mk.injEq]at he
 simp only[Bool.and_eq_true,Nat.beq_eq]at h3
 obtain⟨z1,z2⟩:=TG h3.1
 refine⟨i,hi,he.1,he.2.1,he.2.2,?_,h3.2.1,fun j c u hc hu=>z2 j c u hc (by simpa using hu)⟩
 rw[←h3.2.1,←z1]
 simp
theorem W9 {P:Program}{l:List (List (Nat×TI))}(h:Ge P l):BB (Vy l):=by
 intro t x hx hr
 obtain⟨_,_,h3⟩:=Nq h hx
 simp only[Bool.and_eq_true,Bool.or_eq_true,Nat.beq_eq]at h3
 rcases h3.2.2 with h4 | h4
 ·rw[hr]at h4;simp at h4
 ·exact h4
end Go.AM
